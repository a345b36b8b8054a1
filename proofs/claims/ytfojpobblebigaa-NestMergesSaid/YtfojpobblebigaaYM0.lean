/- Merged: Written by pp.py (this session's program over the kit's printer): functions, contracts. Not trusted: Lean checks it. | Short words for what printed walks say often (their tactics run where they are used). | Contracts, proved by hand: slices.Clone at []api.Level, []api.Undo (their elements' rows are shared), []api.Seen, []api.Write. | Contracts, proved by hand: slices.IndexFunc at []api.Seen and []api.Write, slices.ContainsFunc at []api.Seen, at every function value; the closures of package n | Walks, by hand: nest.read and nest.keep through a pointer to a level. | Rows of api.Write by their cells; copy at two cells; slices.Insert at []api.Write. | Written by pp.py (this session's program over the kit's printer): functions, contracts. Not trusted: Lean checks it. | Written by pp.py (this session's program over the kit's printer): functions, contracts. Not trusted: Lean checks it. | Written by pp.py (this session's program over the kit's printer): functions, contracts. Not trusted: Lean checks it. | Written by pp.py (this session's program over the kit's printer): functions, contracts. Not trusted: Lean checks it. -/
import Derived.Test.YtfojpobblebigaaProg
import Derived.Below
import Derived.Deep.Draws
import Derived.Deep.AppendLies
import Derived.Maps.AppendAt
import Derived.OwnWalk
import Derived.Laws.BytesArg
import Derived.Laws.MakeOwn
import Derived.Laws.OwnMore
import Derived.Deep.OwnRows
import Derived.Tactics
import Derived.Lib.ConvBytes
import Derived.Laws.Slices
import Derived.WalkKit
import Derived.KernelRfl
import Derived.RowKit3
import Derived.Deep.LoopGhost
import Derived.Deep.QuietTactic
import Derived.BigQuiet
import Derived.WideLaws
import Derived.Deep.DeepCutAuto
import Derived.Deep.CutBlock
import Derived.Deep.RegionHeld3
import Derived.Laws.Rows
import Derived.Lib.AppendStr
import Derived.ArgAppend
import Derived.Laws.IdiomCopy
import Derived.OrdersHeld
import Derived.Laws.BitsLemmas
import Derived.RowKit
import Derived.Test.YtfojpobblebigaaVWords
import Derived.Test.YtfojpobblebigaaVLast
import Derived.Test.YtfojpobblebigaaVTab
import Derived.Test.YtfojpobblebigaaVFour
import Derived.Test.YtfojpobblebigaaVQPut
import Derived.Test.YtfojpobblebigaaVApart
import Derived.Test.YtfojpobblebigaaVArr
import Derived.Test.YtfojpobblebigaaVZeros
import Derived.Test.YtfojpobblebigaaVFoot
import Derived.Test.YtfojpobblebigaaVKept
import Derived.Test.YtfojpobblebigaaVShare
import Derived.Test.YtfojpobblebigaaVN
import Derived.Test.YtfojpobblebigaaVFootNe
import Derived.Test.YtfojpobblebigaaVAt
import Derived.Test.YtfojpobblebigaaVEqStruct
import Derived.Test.YtfojpobblebigaaVRepsOne
import Derived.Test.YtfojpobblebigaaVInv
import Derived.Test.YtfojpobblebigaaVInvWords
import Derived.Test.YtfojpobblebigaaVGuard
import Derived.Test.YtfojpobblebigaaVNEv
import Derived.Test.YtfojpobblebigaaVMore
import Derived.WalkSpells
import Derived.Outline
import Derived.Shelf.Abstract
import Derived.RegionTactic
import Derived.BigRegion
import Derived.Deep.RegionLaw
import Derived.Deep.DeepMust
import Derived.Shelf.RegionOpenPlain
import Derived.Laws.CopyOwn
import Derived.Shelf.Spec.SlicesInsertGrow
namespace Go.Proofs.Ytfojpobblebigaa.P
open Go.RowKit Go.Proofs.YtfojpobblebigaaW.PrintWords Go.Proofs.YtfojpobblebigaaW.PrintLast Go.Proofs.YtfojpobblebigaaW.PrintMore
attribute [local go_sem] max2_int min2_int max_two min_two max_three min_three max_four min_four   -- for this text's walks alone
set_option linter.unusedVariables false
set_option linter.unusedSimpArgs false



def errW : Option Int → Value
  | none => .nilIface
  | some c => .iface 0 (.int .i64 c)
theorem errW_none : errW none = .nilIface := rfl
theorem errW_some (c : Int) : errW (some c) = .iface 0 (.int .i64 c) := rfl

theorem info3 : (Try.prog.info? 3).map (fun i => (i.zero, i.size, i.bytes)) = some (some (.int .i64 0), 1, 8) := by kernel_rfl
theorem info30 : (Try.prog.info? 30).map (fun i => (i.zero, i.size, i.bytes)) = some (some (.agg #[(.int .i64 0), (.int .i64 0), (.int .i64 0)]), 3, 24) := by kernel_rfl
theorem info33 : (Try.prog.info? 33).map (fun i => (i.zero, i.size, i.bytes)) = some (some (.agg #[(.int .i64 0), (.int .i64 0)]), 2, 16) := by kernel_rfl
theorem info48 : (Try.prog.info? 48).map (fun i => (i.zero, i.size, i.bytes)) = some (some (.agg #[(.int .i64 0), (.int .i64 0), (.int .i64 0), (.slice none 0 0)]), 4, 48) := by kernel_rfl
theorem info50 : (Try.prog.info? 50).map (fun i => (i.zero, i.size, i.bytes)) = some (some (.agg #[(.int .i64 0), (.int .i64 0), (.int .i64 0), (.slice none 0 0), (.int .i64 0)]), 5, 56) := by kernel_rfl
theorem info62 : (Try.prog.info? 62).map (fun i => (i.zero, i.size, i.bytes)) = some (some (.agg #[(.slice none 0 0), (.slice none 0 0), (.slice none 0 0)]), 3, 72) := by kernel_rfl
-- the values' own types
/-! #### struct type 30 -/
structure S30 where
  f0 : Int
  f1 : Int
  f2 : Int
def z30 : S30 := ⟨(0 : Int), (0 : Int), (0 : Int)⟩
def k30 : Kd S30 := Kd.iso (Kd.pair (Kd.int .i64) (Kd.pair (Kd.int .i64) (Kd.int .i64))) (fun x : S30 => (x.f0, x.f1, x.f2))
theorem k30_heap : Kd.Heap k30 := Kd.heap_iso _ (Kd.heap_pair (Kd.heap_int .i64) (Kd.heap_pair (Kd.heap_int .i64) (Kd.heap_int .i64)))
theorem k30_open {w : World} {x : S30} {cs : List Value} (h : k30.K w x cs) : cs = [.int .i64 x.f0, .int .i64 x.f1, .int .i64 x.f2] := by
 obtain ⟨_, _, rfl, rfl, ⟨_, _, rfl, rfl, rfl⟩⟩ := h
 exact rfl
theorem k30_openM {w : World} {base : Nat} {ok : Nat → Prop} {x : S30} {cs : List Value} (h : k30.M w base ok x cs) : cs = [.int .i64 x.f0, .int .i64 x.f1, .int .i64 x.f2] := by
 obtain ⟨_, _, rfl, rfl, ⟨_, _, rfl, rfl, rfl⟩⟩ := h
 exact rfl
theorem k30_mk (w : World) (x : S30)  : k30.K w x [.int .i64 x.f0, .int .i64 x.f1, .int .i64 x.f2] := ⟨[.int .i64 x.f0], [.int .i64 x.f1, .int .i64 x.f2], rfl, rfl, ⟨[.int .i64 x.f1], [.int .i64 x.f2], rfl, rfl, rfl⟩⟩
theorem k30_mkM (w : World) (base : Nat) (ok : Nat → Prop) (x : S30)  : k30.M w base ok x [.int .i64 x.f0, .int .i64 x.f1, .int .i64 x.f2] := ⟨[.int .i64 x.f0], [.int .i64 x.f1, .int .i64 x.f2], rfl, rfl, ⟨[.int .i64 x.f1], [.int .i64 x.f2], rfl, rfl, rfl⟩⟩
theorem k30_mkF (W : World) (ok : Nat → Prop) (x : S30) : Kd.FK k30 W ok x [.int .i64 x.f0, .int .i64 x.f1, .int .i64 x.f2] := fun W2 _ => k30_mk W2 x
def rd_T30 (xs : List S30) (i : Int) : S30 := xs.getD i.toNat z30
theorem at_T30 {w : World} {A : Option Addr} {n : Nat} {xs : List S30} (h : Kd.C k30 w A n xs) (i : Int) (h0 : 0 ≤ i) (h1 : i < n) : ∃ ad , A = some ad ∧ w.cell? (ad.add (i.toNat * 3)) = some (.int .i64 (rd_T30 xs i).f0) ∧ w.cell? ⟨(ad.add (i.toNat * 3)).block, (ad.add (i.toNat * 3)).off + 1, none⟩ = some (.int .i64 (rd_T30 xs i).f1) ∧ w.cell? ⟨(ad.add (i.toNat * 3)).block, (ad.add (i.toNat * 3)).off + 2, none⟩ = some (.int .i64 (rd_T30 xs i).f2) := by
 obtain ⟨ad, c, e, _, hK, hc0⟩ := Kd.C_get h z30 i h0 h1
 have hc : ∀ j u, c[j]? = some u → w.cell? (ad.add (i.toNat * 3 + j)) = some u := hc0
 obtain rfl := k30_open hK
 exact ⟨ad, e, hc 0 _ rfl, by rw [← add_field _ _ 1 (by omega)]; exact hc 1 _ rfl, by rw [← add_field _ _ 2 (by omega)]; exact hc 2 _ rfl⟩

def rd_L2 (xs : List (List S30)) (i : Int) : (List S30) := xs.getD i.toNat ([] : List S30)
theorem at_L2 {w : World} {A : Option Addr} {n : Nat} {xs : List (List S30)} (h : Kd.C (Kd.slice 30 k30) w A n xs) (i : Int) (h0 : 0 ≤ i) (h1 : i < n) : ∃ ad A0 c0, A = some ad ∧ w.cell? (ad.add i.toNat) = some (.slice A0 (rd_L2 xs i).length c0) ∧ (rd_L2 xs i).length ≤ c0 ∧ k30.C w A0 (rd_L2 xs i).length (rd_L2 xs i) := by
 obtain ⟨ad, c, e, _, hK, hc0⟩ := Kd.C_get h ([] : List S30) i h0 h1
 have hc : ∀ j u, c[j]? = some u → w.cell? (ad.add (i.toNat * 1 + j)) = some u := hc0
 obtain ⟨A0, c0, rfl, l0, g0⟩ := hK
 exact ⟨ad, A0, c0, e, by have hq := hc 0 _ rfl; rwa [Nat.mul_one, Nat.add_zero] at hq, l0, g0⟩

/-! #### struct type 33 -/
structure S33 where
  f0 : Int
  f1 : Int
def z33 : S33 := ⟨(0 : Int), (0 : Int)⟩
def k33 : Kd S33 := Kd.iso (Kd.pair (Kd.int .i64) (Kd.int .i64)) (fun x : S33 => (x.f0, x.f1))
theorem k33_heap : Kd.Heap k33 := Kd.heap_iso _ (Kd.heap_pair (Kd.heap_int .i64) (Kd.heap_int .i64))
theorem k33_open {w : World} {x : S33} {cs : List Value} (h : k33.K w x cs) : cs = [.int .i64 x.f0, .int .i64 x.f1] := by
 obtain ⟨_, _, rfl, rfl, rfl⟩ := h
 exact rfl
theorem k33_openM {w : World} {base : Nat} {ok : Nat → Prop} {x : S33} {cs : List Value} (h : k33.M w base ok x cs) : cs = [.int .i64 x.f0, .int .i64 x.f1] := by
 obtain ⟨_, _, rfl, rfl, rfl⟩ := h
 exact rfl
theorem k33_mk (w : World) (x : S33)  : k33.K w x [.int .i64 x.f0, .int .i64 x.f1] := ⟨[.int .i64 x.f0], [.int .i64 x.f1], rfl, rfl, rfl⟩
theorem k33_mkM (w : World) (base : Nat) (ok : Nat → Prop) (x : S33)  : k33.M w base ok x [.int .i64 x.f0, .int .i64 x.f1] := ⟨[.int .i64 x.f0], [.int .i64 x.f1], rfl, rfl, rfl⟩
theorem k33_mkF (W : World) (ok : Nat → Prop) (x : S33) : Kd.FK k33 W ok x [.int .i64 x.f0, .int .i64 x.f1] := fun W2 _ => k33_mk W2 x
def rd_T33 (xs : List S33) (i : Int) : S33 := xs.getD i.toNat z33
theorem at_T33 {w : World} {A : Option Addr} {n : Nat} {xs : List S33} (h : Kd.C k33 w A n xs) (i : Int) (h0 : 0 ≤ i) (h1 : i < n) : ∃ ad , A = some ad ∧ w.cell? (ad.add (i.toNat * 2)) = some (.int .i64 (rd_T33 xs i).f0) ∧ w.cell? ⟨(ad.add (i.toNat * 2)).block, (ad.add (i.toNat * 2)).off + 1, none⟩ = some (.int .i64 (rd_T33 xs i).f1) := by
 obtain ⟨ad, c, e, _, hK, hc0⟩ := Kd.C_get h z33 i h0 h1
 have hc : ∀ j u, c[j]? = some u → w.cell? (ad.add (i.toNat * 2 + j)) = some u := hc0
 obtain rfl := k33_open hK
 exact ⟨ad, e, hc 0 _ rfl, by rw [← add_field _ _ 1 (by omega)]; exact hc 1 _ rfl⟩

def rd_L4 (xs : List (List S33)) (i : Int) : (List S33) := xs.getD i.toNat ([] : List S33)
theorem at_L4 {w : World} {A : Option Addr} {n : Nat} {xs : List (List S33)} (h : Kd.C (Kd.slice 33 k33) w A n xs) (i : Int) (h0 : 0 ≤ i) (h1 : i < n) : ∃ ad A0 c0, A = some ad ∧ w.cell? (ad.add i.toNat) = some (.slice A0 (rd_L4 xs i).length c0) ∧ (rd_L4 xs i).length ≤ c0 ∧ k33.C w A0 (rd_L4 xs i).length (rd_L4 xs i) := by
 obtain ⟨ad, c, e, _, hK, hc0⟩ := Kd.C_get h ([] : List S33) i h0 h1
 have hc : ∀ j u, c[j]? = some u → w.cell? (ad.add (i.toNat * 1 + j)) = some u := hc0
 obtain ⟨A0, c0, rfl, l0, g0⟩ := hK
 exact ⟨ad, A0, c0, e, by have hq := hc 0 _ rfl; rwa [Nat.mul_one, Nat.add_zero] at hq, l0, g0⟩

/-! #### struct type 48, nested in itself -/
structure S48 where
  f0 : Int
  f1 : Int
  f2 : Int
  f3 : (List S48)
def z48 : S48 := ⟨(0 : Int), (0 : Int), (0 : Int), ([] : List S48)⟩
def F48 (d : Kd S48) : Kd S48 := Kd.iso (Kd.pair (Kd.int .i64) (Kd.pair (Kd.int .i64) (Kd.pair (Kd.int .i64) (Kd.slice 48 d)))) (fun x : S48 => (x.f0, x.f1, x.f2, x.f3))
theorem mono48 : Kd.Mono F48 := Kd.mono_iso _ (Kd.mono_pair (Kd.mono_const _) (Kd.mono_pair (Kd.mono_const _) (Kd.mono_pair (Kd.mono_const _) (Kd.mono_slice 48 Kd.mono_id))))
theorem sub48 : Kd.Sub F48 [48] := Kd.sub_iso _ (Kd.sub_pair (Kd.sub_const _ (by decide)) (Kd.sub_pair (Kd.sub_const _ (by decide)) (Kd.sub_pair (Kd.sub_const _ (by decide)) (Kd.sub_slice 48 (by decide) Kd.sub_id))))
theorem sz48 : ∀ n, (Kd.upto F48 4 [48] n).sz = 4 := Kd.upto_sz (fun _ => rfl)
def k48 : Kd S48 := Kd.fix F48 4 [48] sz48 (Kd.upto_E sub48)
theorem k48_heap : Kd.Heap k48 := Kd.heap_fix (fun _ h_ => Kd.heap_iso _ (Kd.heap_pair (Kd.heap_int .i64) (Kd.heap_pair (Kd.heap_int .i64) (Kd.heap_pair (Kd.heap_int .i64) (Kd.heap_slice 48 h_)))))
theorem k48_open {w : World} {x : S48} {cs : List Value} (h : k48.K w x cs) : ∃ A3 c3, cs = [.int .i64 x.f0, .int .i64 x.f1, .int .i64 x.f2, .slice A3 x.f3.length c3] ∧ x.f3.length ≤ c3 ∧ k48.C w A3 x.f3.length x.f3 := by
 obtain ⟨n, h⟩ := h
 cases n with
 | zero => exact h.elim
 | succ n => {
 obtain ⟨_, _, rfl, rfl, ⟨_, _, rfl, rfl, ⟨_, _, rfl, rfl, ⟨A3, c3, rfl, l3, g3⟩⟩⟩⟩ := h
 exact ⟨A3, c3, rfl, l3, Kd.fix_C g3⟩ }
theorem k48_openM {w : World} {base : Nat} {ok : Nat → Prop} {x : S48} {cs : List Value} (h : k48.M w base ok x cs) : ∃ v3, cs = [.int .i64 x.f0, .int .i64 x.f1, .int .i64 x.f2, v3] ∧ k48.R 48 w base ok v3 x.f3 := by
 obtain ⟨n, h⟩ := h
 cases n with
 | zero => exact h.elim
 | succ n => {
 obtain ⟨_, _, rfl, rfl, ⟨_, _, rfl, rfl, ⟨_, _, rfl, rfl, ⟨v3, rfl, g3⟩⟩⟩⟩ := h
 exact ⟨v3, rfl, Kd.fix_R g3⟩ }
theorem k48_mk (w : World) (x : S48) {A3 : Option Addr} {c3 : Nat} (l3 : x.f3.length ≤ c3) (g3 : k48.C w A3 x.f3.length x.f3) : k48.K w x [.int .i64 x.f0, .int .i64 x.f1, .int .i64 x.f2, .slice A3 x.f3.length c3] := by
 obtain ⟨n3, q3⟩ := Kd.fix_C_back mono48 g3
 have r3 := Kd.upto_C_le mono48 sz48 (show n3 ≤ n3 by omega) q3
 exact ⟨n3 + 1, ⟨[.int .i64 x.f0], [.int .i64 x.f1, .int .i64 x.f2, .slice A3 x.f3.length c3], rfl, rfl, ⟨[.int .i64 x.f1], [.int .i64 x.f2, .slice A3 x.f3.length c3], rfl, rfl, ⟨[.int .i64 x.f2], [.slice A3 x.f3.length c3], rfl, rfl, ⟨A3, c3, rfl, l3, r3⟩⟩⟩⟩⟩
theorem k48_mkM (w : World) (base : Nat) (ok : Nat → Prop) (x : S48) {v3 : Value} (g3 : k48.R 48 w base ok v3 x.f3) : k48.M w base ok x [.int .i64 x.f0, .int .i64 x.f1, .int .i64 x.f2, v3] := by
 obtain ⟨n3, q3⟩ := Kd.fix_R_back mono48 g3
 have r3 := Kd.upto_R_le mono48 sz48 (show n3 ≤ n3 by omega) q3
 exact ⟨n3 + 1, ⟨[.int .i64 x.f0], [.int .i64 x.f1, .int .i64 x.f2, v3], rfl, rfl, ⟨[.int .i64 x.f1], [.int .i64 x.f2, v3], rfl, rfl, ⟨[.int .i64 x.f2], [v3], rfl, rfl, ⟨v3, rfl, r3⟩⟩⟩⟩⟩
theorem k48_openF {W : World} {ok : Nat → Prop} {x : S48} {cs : List Value} (h : Kd.FK k48 W ok x cs) : ∃ A3 c3, cs = [.int .i64 x.f0, .int .i64 x.f1, .int .i64 x.f2, .slice A3 x.f3.length c3] ∧ x.f3.length ≤ c3 ∧ Kd.F k48 W ok A3 x.f3.length x.f3 := by
 obtain ⟨A3, c3, rfl, l3, _⟩ := k48_open (Kd.FK_now h)
 exact ⟨A3, c3, rfl, l3, (fun W' hW => by obtain ⟨A3_, c3_, he, l3_, g3_⟩ := k48_open (h W' hW); injection (Option.some.inj (show some (Value.slice A3 x.f3.length c3) = some (Value.slice A3_ x.f3.length c3_) from congrArg (fun l => l[3]?) he)) with ha_ _ _; rw [ha_]; exact g3_)⟩
theorem k48_mkF (W : World) (ok : Nat → Prop) (x : S48) {A3 : Option Addr} {c3 : Nat} (l3 : x.f3.length ≤ c3) (g3 : Kd.F k48 W ok A3 x.f3.length x.f3) : Kd.FK k48 W ok x [.int .i64 x.f0, .int .i64 x.f1, .int .i64 x.f2, .slice A3 x.f3.length c3] := fun W2 hW => k48_mk W2 x l3 (g3 W2 hW)
def rd_T48 (xs : List S48) (i : Int) : S48 := xs.getD i.toNat z48
theorem at_T48 {w : World} {A : Option Addr} {n : Nat} {xs : List S48} (h : Kd.C k48 w A n xs) (i : Int) (h0 : 0 ≤ i) (h1 : i < n) : ∃ ad A3 c3, A = some ad ∧ w.cell? (ad.add (i.toNat * 4)) = some (.int .i64 (rd_T48 xs i).f0) ∧ w.cell? ⟨(ad.add (i.toNat * 4)).block, (ad.add (i.toNat * 4)).off + 1, none⟩ = some (.int .i64 (rd_T48 xs i).f1) ∧ w.cell? ⟨(ad.add (i.toNat * 4)).block, (ad.add (i.toNat * 4)).off + 2, none⟩ = some (.int .i64 (rd_T48 xs i).f2) ∧ w.cell? ⟨(ad.add (i.toNat * 4)).block, (ad.add (i.toNat * 4)).off + 3, none⟩ = some (.slice A3 (rd_T48 xs i).f3.length c3) ∧ (rd_T48 xs i).f3.length ≤ c3 ∧ k48.C w A3 (rd_T48 xs i).f3.length (rd_T48 xs i).f3 := by
 obtain ⟨ad, c, e, _, hK, hc0⟩ := Kd.C_get h z48 i h0 h1
 have hc : ∀ j u, c[j]? = some u → w.cell? (ad.add (i.toNat * 4 + j)) = some u := hc0
 obtain ⟨A3, c3, rfl, l3, g3⟩ := k48_open hK
 exact ⟨ad, A3, c3, e, hc 0 _ rfl, by rw [← add_field _ _ 1 (by omega)]; exact hc 1 _ rfl, by rw [← add_field _ _ 2 (by omega)]; exact hc 2 _ rfl, by rw [← add_field _ _ 3 (by omega)]; exact hc 3 _ rfl, l3, g3⟩

/-! #### struct type 50 -/
structure S50 where
  f0 : S48
  f1 : Int
def z50 : S50 := ⟨z48, (0 : Int)⟩
def k50 : Kd S50 := Kd.iso (Kd.pair k48 (Kd.int .i64)) (fun x : S50 => (x.f0, x.f1))
theorem k50_heap : Kd.Heap k50 := Kd.heap_iso _ (Kd.heap_pair k48_heap (Kd.heap_int .i64))
theorem k50_open {w : World} {x : S50} {cs : List Value} (h : k50.K w x cs) : ∃ A3 c3, cs = [.int .i64 x.f0.f0, .int .i64 x.f0.f1, .int .i64 x.f0.f2, .slice A3 x.f0.f3.length c3, .int .i64 x.f1] ∧ x.f0.f3.length ≤ c3 ∧ k48.C w A3 x.f0.f3.length x.f0.f3 := by
 obtain ⟨_, _, rfl, s0, rfl⟩ := h
 obtain ⟨A3, c3, rfl, l3, g3⟩ := k48_open s0
 exact ⟨A3, c3, rfl, l3, g3⟩
theorem k50_openM {w : World} {base : Nat} {ok : Nat → Prop} {x : S50} {cs : List Value} (h : k50.M w base ok x cs) : ∃ v3, cs = [.int .i64 x.f0.f0, .int .i64 x.f0.f1, .int .i64 x.f0.f2, v3, .int .i64 x.f1] ∧ k48.R 48 w base ok v3 x.f0.f3 := by
 obtain ⟨_, _, rfl, s0, rfl⟩ := h
 obtain ⟨v3, rfl, g3⟩ := k48_openM s0
 exact ⟨v3, rfl, g3⟩
theorem k50_mk (w : World) (x : S50) {A3 : Option Addr} {c3 : Nat} (l3 : x.f0.f3.length ≤ c3) (g3 : k48.C w A3 x.f0.f3.length x.f0.f3) : k50.K w x [.int .i64 x.f0.f0, .int .i64 x.f0.f1, .int .i64 x.f0.f2, .slice A3 x.f0.f3.length c3, .int .i64 x.f1] := ⟨[.int .i64 x.f0.f0, .int .i64 x.f0.f1, .int .i64 x.f0.f2, .slice A3 x.f0.f3.length c3], [.int .i64 x.f1], rfl, (k48_mk w x.f0 l3 g3), rfl⟩
theorem k50_mkM (w : World) (base : Nat) (ok : Nat → Prop) (x : S50) {v3 : Value} (g3 : k48.R 48 w base ok v3 x.f0.f3) : k50.M w base ok x [.int .i64 x.f0.f0, .int .i64 x.f0.f1, .int .i64 x.f0.f2, v3, .int .i64 x.f1] := ⟨[.int .i64 x.f0.f0, .int .i64 x.f0.f1, .int .i64 x.f0.f2, v3], [.int .i64 x.f1], rfl, (k48_mkM w base ok x.f0 g3), rfl⟩
theorem k50_openF {W : World} {ok : Nat → Prop} {x : S50} {cs : List Value} (h : Kd.FK k50 W ok x cs) : ∃ A3 c3, cs = [.int .i64 x.f0.f0, .int .i64 x.f0.f1, .int .i64 x.f0.f2, .slice A3 x.f0.f3.length c3, .int .i64 x.f1] ∧ x.f0.f3.length ≤ c3 ∧ Kd.F k48 W ok A3 x.f0.f3.length x.f0.f3 := by
 obtain ⟨A3, c3, rfl, l3, _⟩ := k50_open (Kd.FK_now h)
 exact ⟨A3, c3, rfl, l3, (fun W' hW => by obtain ⟨A3_, c3_, he, l3_, g3_⟩ := k50_open (h W' hW); injection (Option.some.inj (show some (Value.slice A3 x.f0.f3.length c3) = some (Value.slice A3_ x.f0.f3.length c3_) from congrArg (fun l => l[3]?) he)) with ha_ _ _; rw [ha_]; exact g3_)⟩
theorem k50_mkF (W : World) (ok : Nat → Prop) (x : S50) {A3 : Option Addr} {c3 : Nat} (l3 : x.f0.f3.length ≤ c3) (g3 : Kd.F k48 W ok A3 x.f0.f3.length x.f0.f3) : Kd.FK k50 W ok x [.int .i64 x.f0.f0, .int .i64 x.f0.f1, .int .i64 x.f0.f2, .slice A3 x.f0.f3.length c3, .int .i64 x.f1] := fun W2 hW => k50_mk W2 x l3 (g3 W2 hW)
def rd_T50 (xs : List S50) (i : Int) : S50 := xs.getD i.toNat z50
theorem at_T50 {w : World} {A : Option Addr} {n : Nat} {xs : List S50} (h : Kd.C k50 w A n xs) (i : Int) (h0 : 0 ≤ i) (h1 : i < n) : ∃ ad A3 c3, A = some ad ∧ w.cell? (ad.add (i.toNat * 5)) = some (.int .i64 (rd_T50 xs i).f0.f0) ∧ w.cell? ⟨(ad.add (i.toNat * 5)).block, (ad.add (i.toNat * 5)).off + 1, none⟩ = some (.int .i64 (rd_T50 xs i).f0.f1) ∧ w.cell? ⟨(ad.add (i.toNat * 5)).block, (ad.add (i.toNat * 5)).off + 2, none⟩ = some (.int .i64 (rd_T50 xs i).f0.f2) ∧ w.cell? ⟨(ad.add (i.toNat * 5)).block, (ad.add (i.toNat * 5)).off + 3, none⟩ = some (.slice A3 (rd_T50 xs i).f0.f3.length c3) ∧ w.cell? ⟨(ad.add (i.toNat * 5)).block, (ad.add (i.toNat * 5)).off + 4, none⟩ = some (.int .i64 (rd_T50 xs i).f1) ∧ (rd_T50 xs i).f0.f3.length ≤ c3 ∧ k48.C w A3 (rd_T50 xs i).f0.f3.length (rd_T50 xs i).f0.f3 := by
 obtain ⟨ad, c, e, _, hK, hc0⟩ := Kd.C_get h z50 i h0 h1
 have hc : ∀ j u, c[j]? = some u → w.cell? (ad.add (i.toNat * 5 + j)) = some u := hc0
 obtain ⟨A3, c3, rfl, l3, g3⟩ := k50_open hK
 exact ⟨ad, A3, c3, e, hc 0 _ rfl, by rw [← add_field _ _ 1 (by omega)]; exact hc 1 _ rfl, by rw [← add_field _ _ 2 (by omega)]; exact hc 2 _ rfl, by rw [← add_field _ _ 3 (by omega)]; exact hc 3 _ rfl, by rw [← add_field _ _ 4 (by omega)]; exact hc 4 _ rfl, l3, g3⟩

def rd_L7 (xs : List (List S50)) (i : Int) : (List S50) := xs.getD i.toNat ([] : List S50)
theorem at_L7 {w : World} {A : Option Addr} {n : Nat} {xs : List (List S50)} (h : Kd.C (Kd.slice 50 k50) w A n xs) (i : Int) (h0 : 0 ≤ i) (h1 : i < n) : ∃ ad A0 c0, A = some ad ∧ w.cell? (ad.add i.toNat) = some (.slice A0 (rd_L7 xs i).length c0) ∧ (rd_L7 xs i).length ≤ c0 ∧ k50.C w A0 (rd_L7 xs i).length (rd_L7 xs i) := by
 obtain ⟨ad, c, e, _, hK, hc0⟩ := Kd.C_get h ([] : List S50) i h0 h1
 have hc : ∀ j u, c[j]? = some u → w.cell? (ad.add (i.toNat * 1 + j)) = some u := hc0
 obtain ⟨A0, c0, rfl, l0, g0⟩ := hK
 exact ⟨ad, A0, c0, e, by have hq := hc 0 _ rfl; rwa [Nat.mul_one, Nat.add_zero] at hq, l0, g0⟩

/-! #### struct type 62 -/
structure S62 where
  f0 : (List S30)
  f1 : (List S33)
  f2 : (List S50)
def z62 : S62 := ⟨([] : List S30), ([] : List S33), ([] : List S50)⟩
def k62 : Kd S62 := Kd.iso (Kd.pair (Kd.slice 30 k30) (Kd.pair (Kd.slice 33 k33) (Kd.slice 50 k50))) (fun x : S62 => (x.f0, x.f1, x.f2))
theorem k62_heap : Kd.Heap k62 := Kd.heap_iso _ (Kd.heap_pair (Kd.heap_slice 30 k30_heap) (Kd.heap_pair (Kd.heap_slice 33 k33_heap) (Kd.heap_slice 50 k50_heap)))
theorem k62_open {w : World} {x : S62} {cs : List Value} (h : k62.K w x cs) : ∃ A0 c0 A1 c1 A2 c2, cs = [.slice A0 x.f0.length c0, .slice A1 x.f1.length c1, .slice A2 x.f2.length c2] ∧ x.f0.length ≤ c0 ∧ k30.C w A0 x.f0.length x.f0 ∧ x.f1.length ≤ c1 ∧ k33.C w A1 x.f1.length x.f1 ∧ x.f2.length ≤ c2 ∧ k50.C w A2 x.f2.length x.f2 := by
 obtain ⟨_, _, rfl, ⟨A0, c0, rfl, l0, g0⟩, ⟨_, _, rfl, ⟨A1, c1, rfl, l1, g1⟩, ⟨A2, c2, rfl, l2, g2⟩⟩⟩ := h
 exact ⟨A0, c0, A1, c1, A2, c2, rfl, l0, g0, l1, g1, l2, g2⟩
theorem k62_openM {w : World} {base : Nat} {ok : Nat → Prop} {x : S62} {cs : List Value} (h : k62.M w base ok x cs) : ∃ v0 v1 v2, cs = [v0, v1, v2] ∧ k30.R 30 w base ok v0 x.f0 ∧ k33.R 33 w base ok v1 x.f1 ∧ k50.R 50 w base ok v2 x.f2 := by
 obtain ⟨_, _, rfl, ⟨v0, rfl, g0⟩, ⟨_, _, rfl, ⟨v1, rfl, g1⟩, ⟨v2, rfl, g2⟩⟩⟩ := h
 exact ⟨v0, v1, v2, rfl, g0, g1, g2⟩
theorem k62_mk (w : World) (x : S62) {A0 : Option Addr} {c0 : Nat} (l0 : x.f0.length ≤ c0) (g0 : k30.C w A0 x.f0.length x.f0) {A1 : Option Addr} {c1 : Nat} (l1 : x.f1.length ≤ c1) (g1 : k33.C w A1 x.f1.length x.f1) {A2 : Option Addr} {c2 : Nat} (l2 : x.f2.length ≤ c2) (g2 : k50.C w A2 x.f2.length x.f2) : k62.K w x [.slice A0 x.f0.length c0, .slice A1 x.f1.length c1, .slice A2 x.f2.length c2] := ⟨[.slice A0 x.f0.length c0], [.slice A1 x.f1.length c1, .slice A2 x.f2.length c2], rfl, ⟨A0, c0, rfl, l0, g0⟩, ⟨[.slice A1 x.f1.length c1], [.slice A2 x.f2.length c2], rfl, ⟨A1, c1, rfl, l1, g1⟩, ⟨A2, c2, rfl, l2, g2⟩⟩⟩
theorem k62_mkM (w : World) (base : Nat) (ok : Nat → Prop) (x : S62) {v0 : Value} (g0 : k30.R 30 w base ok v0 x.f0) {v1 : Value} (g1 : k33.R 33 w base ok v1 x.f1) {v2 : Value} (g2 : k50.R 50 w base ok v2 x.f2) : k62.M w base ok x [v0, v1, v2] := ⟨[v0], [v1, v2], rfl, ⟨v0, rfl, g0⟩, ⟨[v1], [v2], rfl, ⟨v1, rfl, g1⟩, ⟨v2, rfl, g2⟩⟩⟩
theorem k62_openF {W : World} {ok : Nat → Prop} {x : S62} {cs : List Value} (h : Kd.FK k62 W ok x cs) : ∃ A0 c0 A1 c1 A2 c2, cs = [.slice A0 x.f0.length c0, .slice A1 x.f1.length c1, .slice A2 x.f2.length c2] ∧ x.f0.length ≤ c0 ∧ Kd.F k30 W ok A0 x.f0.length x.f0 ∧ x.f1.length ≤ c1 ∧ Kd.F k33 W ok A1 x.f1.length x.f1 ∧ x.f2.length ≤ c2 ∧ Kd.F k50 W ok A2 x.f2.length x.f2 := by
 obtain ⟨A0, c0, A1, c1, A2, c2, rfl, l0, _, l1, _, l2, _⟩ := k62_open (Kd.FK_now h)
 exact ⟨A0, c0, A1, c1, A2, c2, rfl, l0, (fun W' hW => by obtain ⟨A0_, c0_, A1_, c1_, A2_, c2_, he, l0_, g0_, l1_, g1_, l2_, g2_⟩ := k62_open (h W' hW); injection (Option.some.inj (show some (Value.slice A0 x.f0.length c0) = some (Value.slice A0_ x.f0.length c0_) from congrArg (fun l => l[0]?) he)) with ha_ _ _; rw [ha_]; exact g0_), l1, (fun W' hW => by obtain ⟨A0_, c0_, A1_, c1_, A2_, c2_, he, l0_, g0_, l1_, g1_, l2_, g2_⟩ := k62_open (h W' hW); injection (Option.some.inj (show some (Value.slice A1 x.f1.length c1) = some (Value.slice A1_ x.f1.length c1_) from congrArg (fun l => l[1]?) he)) with ha_ _ _; rw [ha_]; exact g1_), l2, (fun W' hW => by obtain ⟨A0_, c0_, A1_, c1_, A2_, c2_, he, l0_, g0_, l1_, g1_, l2_, g2_⟩ := k62_open (h W' hW); injection (Option.some.inj (show some (Value.slice A2 x.f2.length c2) = some (Value.slice A2_ x.f2.length c2_) from congrArg (fun l => l[2]?) he)) with ha_ _ _; rw [ha_]; exact g2_)⟩
theorem k62_mkF (W : World) (ok : Nat → Prop) (x : S62) {A0 : Option Addr} {c0 : Nat} (l0 : x.f0.length ≤ c0) (g0 : Kd.F k30 W ok A0 x.f0.length x.f0) {A1 : Option Addr} {c1 : Nat} (l1 : x.f1.length ≤ c1) (g1 : Kd.F k33 W ok A1 x.f1.length x.f1) {A2 : Option Addr} {c2 : Nat} (l2 : x.f2.length ≤ c2) (g2 : Kd.F k50 W ok A2 x.f2.length x.f2) : Kd.FK k62 W ok x [.slice A0 x.f0.length c0, .slice A1 x.f1.length c1, .slice A2 x.f2.length c2] := fun W2 hW => k62_mk W2 x l0 (g0 W2 hW) l1 (g1 W2 hW) l2 (g2 W2 hW)
def rd_T62 (xs : List S62) (i : Int) : S62 := xs.getD i.toNat z62
theorem at_T62 {w : World} {A : Option Addr} {n : Nat} {xs : List S62} (h : Kd.C k62 w A n xs) (i : Int) (h0 : 0 ≤ i) (h1 : i < n) : ∃ ad A0 c0 A1 c1 A2 c2, A = some ad ∧ w.cell? (ad.add (i.toNat * 3)) = some (.slice A0 (rd_T62 xs i).f0.length c0) ∧ w.cell? ⟨(ad.add (i.toNat * 3)).block, (ad.add (i.toNat * 3)).off + 1, none⟩ = some (.slice A1 (rd_T62 xs i).f1.length c1) ∧ w.cell? ⟨(ad.add (i.toNat * 3)).block, (ad.add (i.toNat * 3)).off + 2, none⟩ = some (.slice A2 (rd_T62 xs i).f2.length c2) ∧ (rd_T62 xs i).f0.length ≤ c0 ∧ k30.C w A0 (rd_T62 xs i).f0.length (rd_T62 xs i).f0 ∧ (rd_T62 xs i).f1.length ≤ c1 ∧ k33.C w A1 (rd_T62 xs i).f1.length (rd_T62 xs i).f1 ∧ (rd_T62 xs i).f2.length ≤ c2 ∧ k50.C w A2 (rd_T62 xs i).f2.length (rd_T62 xs i).f2 := by
 obtain ⟨ad, c, e, _, hK, hc0⟩ := Kd.C_get h z62 i h0 h1
 have hc : ∀ j u, c[j]? = some u → w.cell? (ad.add (i.toNat * 3 + j)) = some u := hc0
 obtain ⟨A0, c0, A1, c1, A2, c2, rfl, l0, g0, l1, g1, l2, g2⟩ := k62_open hK
 exact ⟨ad, A0, c0, A1, c1, A2, c2, e, hc 0 _ rfl, by rw [← add_field _ _ 1 (by omega)]; exact hc 1 _ rfl, by rw [← add_field _ _ 2 (by omega)]; exact hc 2 _ rfl, l0, g0, l1, g1, l2, g2⟩

def rd_L9 (xs : List (List S62)) (i : Int) : (List S62) := xs.getD i.toNat ([] : List S62)
theorem at_L9 {w : World} {A : Option Addr} {n : Nat} {xs : List (List S62)} (h : Kd.C (Kd.slice 62 k62) w A n xs) (i : Int) (h0 : 0 ≤ i) (h1 : i < n) : ∃ ad A0 c0, A = some ad ∧ w.cell? (ad.add i.toNat) = some (.slice A0 (rd_L9 xs i).length c0) ∧ (rd_L9 xs i).length ≤ c0 ∧ k62.C w A0 (rd_L9 xs i).length (rd_L9 xs i) := by
 obtain ⟨ad, c, e, _, hK, hc0⟩ := Kd.C_get h ([] : List S62) i h0 h1
 have hc : ∀ j u, c[j]? = some u → w.cell? (ad.add (i.toNat * 1 + j)) = some u := hc0
 obtain ⟨A0, c0, rfl, l0, g0⟩ := hK
 exact ⟨ad, A0, c0, e, by have hq := hc 0 _ rfl; rwa [Nat.mul_one, Nat.add_zero] at hq, l0, g0⟩

end Go.Proofs.Ytfojpobblebigaa.P
namespace Go.Proofs.Ytfojpobblebigaa.P
open Go.RowKit Go.Proofs.YtfojpobblebigaaW.PrintWords Go.Proofs.YtfojpobblebigaaW.PrintLast Go.Proofs.YtfojpobblebigaaW.PrintMore
set_option linter.unusedVariables false
theorem aS {p : Prop} (h : p) : Aside0 p := ⟨h⟩
theorem bb {p : Prop} (k : p := by repeat (first | (with_reducible first | exact HB.out | apply below_alloc | apply pw_below_drewN | apply below_drew1 | refine below_set ?_ (Aside0.out (by assumption))) | exact HB.out)) : p := k
theorem bz {w W : World} (k : Below w.heap.size w W := by repeat (first | (with_reducible first | exact HB.out | apply below_alloc | apply pw_below_drewN | apply below_drew1 | refine below_set ?_ (Aside0.out (by assumption))) | exact HB.out)) : w.heap.size ≤ W.heap.size := k.size
theorem dd {p : Prop} [Decidable p] (h : decide p = true := by first | (with_reducible assumption) | assumption) : p := of_decide_eq_true h
theorem cc {w w' : World} (hb : Below w.heap.size w w') {p : Addr} {v : Value} (h : w.cell? p = some v) : w'.cell? p = some v := (hb.cell (World.block_lt_of_cell? w _ h)).trans h
theorem kk {w w' : World} {g : Nat} {o : Obj} (h : w.heap[g]? = some o) (k : Below w.heap.size w w' := by repeat (with_reducible first | exact Below.refl _ _ | apply below_alloc | apply pw_below_drewN | apply below_drew1)) : w'.heap[g]? = some o := (k.block g (blk_lt h)).trans h
section
variable {α : Type} {d : Kd α} {e : Nat} {w w' : World} {base : Nat} {ok : Nat → Prop} {v : Value} {xs : List α}
theorem vv (h : Kd.V d e w base ok v xs) (k : Below w.heap.size w w' := by repeat (with_reducible first | exact Below.refl _ _ | apply below_alloc | apply pw_below_drewN | apply below_drew1)) : Kd.V d e w' base ok v xs := Kd.V_below h k
theorem rr (h : Kd.R d e w base ok v xs) (k : Below w.heap.size w w' := by repeat (with_reducible first | exact Below.refl _ _ | apply below_alloc | apply pw_below_drewN | apply below_drew1)) : Kd.R d e w' base ok v xs := Kd.R_below h k
end
theorem sT {α : Type} (a : List α) (i : Nat) (x : α) : a.toArray.setIfInBounds i x = (a.set i x).toArray := List.setIfInBounds_toArray ..
theorem s0 {α : Type} (a : List α) (x y : α) : (x :: a).set 0 y = y :: a := rfl
theorem s1 {α : Type} (a : List α) (x y : α) (i : Nat) : (x :: a).set (i + 1) y = x :: a.set i y := rfl
end Go.Proofs.Ytfojpobblebigaa.P
namespace Go.Proofs.Ytfojpobblebigaa.P
open Go.RowKit Go.Proofs.YtfojpobblebigaaW.PrintWords Go.Proofs.YtfojpobblebigaaW.PrintLast Go.Proofs.YtfojpobblebigaaW.PrintMore
set_option linter.unusedVariables false
set_option linter.unusedSimpArgs false

/-- The greatest count that these contracts speak of. -/
def LIM : Nat := 1099511627776

set_option maxHeartbeats 4000000 in
set_option maxRecDepth 100000 in
theorem cloneL (P : Nat → Prop) (A : Option Addr) (n c : Nat) (l : List S62) (w : World) (hr : Kd.F k62 w P A n l) (hcc : n ≤ c) (hlim : l.length ≤ LIM) :
    Calls Try.prog 35 #[.slice A n c] w fun e w' => ∃ v : Value, e = .returned v ∧ Kd.N k62 62 w' w.heap.size (fun k => P k ∨ w.heap.size ≤ k) v l ∧ Below w.heap.size w w' := by
  have HR0 := Aside0.mk hr
  have LM := Aside0.mk hlim
  obtain rfl : l.length = n := Kd.F_len hr
  clear hr hlim
  have HB := Aside0.mk (Below.refl w.heap.size w)
  cases A with
  | none =>
    have hl0 : l = [] := by
      have := (Kd.F_now HR0.out).2.2
      rcases l with _ | ⟨a, l⟩
      · rfl
      · obtain ⟨ad, he, _⟩ := this (by simp)
        simp at he
    subst hl0
    have hnil := fun (w : World) => Lib.run_eql_slice_nil (P := Try.prog) w 22 62 none 0 c 0 0 Try.underlying22
    go_enter Try.func35, Try.ntmps35
    go_wp2
    go_ret
    exact ⟨_, rfl, Kd.N_nil _ _ _ _ _, Below.refl _ _⟩
  | some ad =>
    have hnil := fun (w : World) => Lib.run_eql_slice_nil (P := Try.prog) w 22 62 (some ad) l.length c 0 0 Try.underlying22
    go_enter Try.func35, Try.ntmps35
    go_wp2_with (first | ((with_reducible refine gate_dst (N := 5) rfl ?_); refine Kd.N_lit k62 _ 62 ?hg (N' := 5) ?hd (xs := ([] : List S62)) (inner := []) (ok := fun k => P k ∨ w.heap.size ≤ k) (okp := fun _ => False) ?hr ?hp (fun _ hk => hk.elim) (Or.inr (Nat.le_refl _)) (Below.refl _ _) (Nat.le_refl _) (by simp) ?_; (case hd => rfl); (case hg => rfl); (case hr => first | (go_simp; done) | (go_simp; rfl)); (case hp => exact (Reps.none _ _)); intro v184 w5 ho6 hb hg_ hnew_; have HN := Aside0.mk hnew_; have HO := Aside0.mk ho6; have HB5 := Aside0.mk hb; clear ho6 hb hg_ hnew_) | ((with_reducible refine gate_builtin (b := .append) (xs := #[.tmp 5, .tmp 6]) rfl ?_); at_builtin; refine Kd.N_append_rows k62 (w0 := w) w.heap.size rfl (.tmp 5) (.tmp 6) 22 62 _ 72 rfl Try.underlying22 info62 rfl (by decide) (by omega) v184 [] l (some ad) l.length c (fun k => P k ∨ w.heap.size ≤ k) (fun k => P k ∧ k < w.heap.size) rfl rfl HO.out (Kd.F_old HR0.out HB5.out) ?ha (fun k hk => Or.inr (Nat.le_trans HB5.out.size hk)) HB5.out HB5.out.size (by have := LM.out; unfold LIM at this; simp; omega) ?_; (case ha => exact fun k hk => ⟨Or.inl hk.1, fun he => (by obtain ⟨b, hb1, hb2⟩ := HN.out; have h1 := he.trans hb1; injection h1 with h1; have := hk.2; omega)⟩); intro v187 w9 ho hb hg hat; have HO2 := Aside0.mk ho; have HB2 := Aside0.mk hb; clear ho hb hg hat))
    go_ret
    exact ⟨_, rfl, HO2.out, HB2.out⟩

set_option maxHeartbeats 4000000 in
set_option maxRecDepth 100000 in
theorem cloneU (P : Nat → Prop) (A : Option Addr) (n c : Nat) (l : List S50) (w : World) (hr : Kd.F k50 w P A n l) (hcc : n ≤ c) (hlim : l.length ≤ LIM) :
    Calls Try.prog 43 #[.slice A n c] w fun e w' => ∃ v : Value, e = .returned v ∧ Kd.N k50 50 w' w.heap.size (fun k => P k ∨ w.heap.size ≤ k) v l ∧ Below w.heap.size w w' := by
  have HR0 := Aside0.mk hr
  have LM := Aside0.mk hlim
  obtain rfl : l.length = n := Kd.F_len hr
  clear hr hlim
  have HB := Aside0.mk (Below.refl w.heap.size w)
  cases A with
  | none =>
    have hl0 : l = [] := by
      have := (Kd.F_now HR0.out).2.2
      rcases l with _ | ⟨a, l⟩
      · rfl
      · obtain ⟨ad, he, _⟩ := this (by simp)
        simp at he
    subst hl0
    have hnil := fun (w : World) => Lib.run_eql_slice_nil (P := Try.prog) w 34 50 none 0 c 0 0 Try.underlying34
    go_enter Try.func43, Try.ntmps43
    go_wp2
    go_ret
    exact ⟨_, rfl, Kd.N_nil _ _ _ _ _, Below.refl _ _⟩
  | some ad =>
    have hnil := fun (w : World) => Lib.run_eql_slice_nil (P := Try.prog) w 34 50 (some ad) l.length c 0 0 Try.underlying34
    go_enter Try.func43, Try.ntmps43
    go_wp2_with (first | ((with_reducible refine gate_dst (N := 5) rfl ?_); refine Kd.N_lit k50 _ 50 ?hg (N' := 5) ?hd (xs := ([] : List S50)) (inner := []) (ok := fun k => P k ∨ w.heap.size ≤ k) (okp := fun _ => False) ?hr ?hp (fun _ hk => hk.elim) (Or.inr (Nat.le_refl _)) (Below.refl _ _) (Nat.le_refl _) (by simp) ?_; (case hd => rfl); (case hg => rfl); (case hr => first | (go_simp; done) | (go_simp; rfl)); (case hp => exact (Reps.none _ _)); intro v184 w5 ho6 hb hg_ hnew_; have HN := Aside0.mk hnew_; have HO := Aside0.mk ho6; have HB5 := Aside0.mk hb; clear ho6 hb hg_ hnew_) | ((with_reducible refine gate_builtin (b := .append) (xs := #[.tmp 5, .tmp 6]) rfl ?_); at_builtin; refine Kd.N_append_rows k50 (w0 := w) w.heap.size rfl (.tmp 5) (.tmp 6) 34 50 _ 56 rfl Try.underlying34 info50 rfl (by decide) (by omega) v184 [] l (some ad) l.length c (fun k => P k ∨ w.heap.size ≤ k) (fun k => P k ∧ k < w.heap.size) rfl rfl HO.out (Kd.F_old HR0.out HB5.out) ?ha (fun k hk => Or.inr (Nat.le_trans HB5.out.size hk)) HB5.out HB5.out.size (by have := LM.out; unfold LIM at this; simp; omega) ?_; (case ha => exact fun k hk => ⟨Or.inl hk.1, fun he => (by obtain ⟨b, hb1, hb2⟩ := HN.out; have h1 := he.trans hb1; injection h1 with h1; have := hk.2; omega)⟩); intro v187 w9 ho hb hg hat; have HO2 := Aside0.mk ho; have HB2 := Aside0.mk hb; clear ho hb hg hat))
    go_ret
    exact ⟨_, rfl, HO2.out, HB2.out⟩

set_option maxHeartbeats 4000000 in
set_option maxRecDepth 100000 in
theorem cloneR (P : Nat → Prop) (A : Option Addr) (n c : Nat) (l : List S30) (w : World) (hr : Kd.F k30 w P A n l) (hcc : n ≤ c) (hlim : l.length ≤ LIM) :
    Calls Try.prog 45 #[.slice A n c] w fun e w' => ∃ v : Value, e = .returned v ∧ Kd.N k30 30 w' w.heap.size (fun k => P k ∨ w.heap.size ≤ k) v l ∧ Below w.heap.size w w' := by
  have HR0 := Aside0.mk hr
  have LM := Aside0.mk hlim
  obtain rfl : l.length = n := Kd.F_len hr
  clear hr hlim
  have HB := Aside0.mk (Below.refl w.heap.size w)
  cases A with
  | none =>
    have hl0 : l = [] := by
      have := (Kd.F_now HR0.out).2.2
      rcases l with _ | ⟨a, l⟩
      · rfl
      · obtain ⟨ad, he, _⟩ := this (by simp)
        simp at he
    subst hl0
    have hnil := fun (w : World) => Lib.run_eql_slice_nil (P := Try.prog) w 23 30 none 0 c 0 0 Try.underlying23
    go_enter Try.func45, Try.ntmps45
    go_wp2
    go_ret
    exact ⟨_, rfl, Kd.N_nil _ _ _ _ _, Below.refl _ _⟩
  | some ad =>
    have hnil := fun (w : World) => Lib.run_eql_slice_nil (P := Try.prog) w 23 30 (some ad) l.length c 0 0 Try.underlying23
    go_enter Try.func45, Try.ntmps45
    go_wp2_with (first | ((with_reducible refine gate_dst (N := 5) rfl ?_); refine Kd.N_lit k30 _ 30 ?hg (N' := 5) ?hd (xs := ([] : List S30)) (inner := []) (ok := fun k => P k ∨ w.heap.size ≤ k) (okp := fun _ => False) ?hr ?hp (fun _ hk => hk.elim) (Or.inr (Nat.le_refl _)) (Below.refl _ _) (Nat.le_refl _) (by simp) ?_; (case hd => rfl); (case hg => rfl); (case hr => first | (go_simp; done) | (go_simp; rfl)); (case hp => exact (Reps.none _ _)); intro v184 w5 ho6 hb hg_ hnew_; have HN := Aside0.mk hnew_; have HO := Aside0.mk ho6; have HB5 := Aside0.mk hb; clear ho6 hb hg_ hnew_) | ((with_reducible refine gate_builtin (b := .append) (xs := #[.tmp 5, .tmp 6]) rfl ?_); at_builtin; refine Kd.N_append_rows k30 (w0 := w) w.heap.size rfl (.tmp 5) (.tmp 6) 23 30 _ 24 rfl Try.underlying23 info30 rfl (by decide) (by omega) v184 [] l (some ad) l.length c (fun k => P k ∨ w.heap.size ≤ k) (fun k => P k ∧ k < w.heap.size) rfl rfl HO.out (Kd.F_old HR0.out HB5.out) ?ha (fun k hk => Or.inr (Nat.le_trans HB5.out.size hk)) HB5.out HB5.out.size (by have := LM.out; unfold LIM at this; simp; omega) ?_; (case ha => exact fun k hk => ⟨Or.inl hk.1, fun he => (by obtain ⟨b, hb1, hb2⟩ := HN.out; have h1 := he.trans hb1; injection h1 with h1; have := hk.2; omega)⟩); intro v187 w9 ho hb hg hat; have HO2 := Aside0.mk ho; have HB2 := Aside0.mk hb; clear ho hb hg hat))
    go_ret
    exact ⟨_, rfl, HO2.out, HB2.out⟩

set_option maxHeartbeats 4000000 in
set_option maxRecDepth 100000 in
theorem cloneT (P : Nat → Prop) (A : Option Addr) (n c : Nat) (l : List S33) (w : World) (hr : Kd.F k33 w P A n l) (hcc : n ≤ c) (hlim : l.length ≤ LIM) :
    Calls Try.prog 56 #[.slice A n c] w fun e w' => ∃ v : Value, e = .returned v ∧ Kd.N k33 33 w' w.heap.size (fun k => P k ∨ w.heap.size ≤ k) v l ∧ Below w.heap.size w w' := by
  have HR0 := Aside0.mk hr
  have LM := Aside0.mk hlim
  obtain rfl : l.length = n := Kd.F_len hr
  clear hr hlim
  have HB := Aside0.mk (Below.refl w.heap.size w)
  cases A with
  | none =>
    have hl0 : l = [] := by
      have := (Kd.F_now HR0.out).2.2
      rcases l with _ | ⟨a, l⟩
      · rfl
      · obtain ⟨ad, he, _⟩ := this (by simp)
        simp at he
    subst hl0
    have hnil := fun (w : World) => Lib.run_eql_slice_nil (P := Try.prog) w 24 33 none 0 c 0 0 Try.underlying24
    go_enter Try.func56, Try.ntmps56
    go_wp2
    go_ret
    exact ⟨_, rfl, Kd.N_nil _ _ _ _ _, Below.refl _ _⟩
  | some ad =>
    have hnil := fun (w : World) => Lib.run_eql_slice_nil (P := Try.prog) w 24 33 (some ad) l.length c 0 0 Try.underlying24
    go_enter Try.func56, Try.ntmps56
    go_wp2_with (first | ((with_reducible refine gate_dst (N := 5) rfl ?_); refine Kd.N_lit k33 _ 33 ?hg (N' := 5) ?hd (xs := ([] : List S33)) (inner := []) (ok := fun k => P k ∨ w.heap.size ≤ k) (okp := fun _ => False) ?hr ?hp (fun _ hk => hk.elim) (Or.inr (Nat.le_refl _)) (Below.refl _ _) (Nat.le_refl _) (by simp) ?_; (case hd => rfl); (case hg => rfl); (case hr => first | (go_simp; done) | (go_simp; rfl)); (case hp => exact (Reps.none _ _)); intro v184 w5 ho6 hb hg_ hnew_; have HN := Aside0.mk hnew_; have HO := Aside0.mk ho6; have HB5 := Aside0.mk hb; clear ho6 hb hg_ hnew_) | ((with_reducible refine gate_builtin (b := .append) (xs := #[.tmp 5, .tmp 6]) rfl ?_); at_builtin; refine Kd.N_append_rows k33 (w0 := w) w.heap.size rfl (.tmp 5) (.tmp 6) 24 33 _ 16 rfl Try.underlying24 info33 rfl (by decide) (by omega) v184 [] l (some ad) l.length c (fun k => P k ∨ w.heap.size ≤ k) (fun k => P k ∧ k < w.heap.size) rfl rfl HO.out (Kd.F_old HR0.out HB5.out) ?ha (fun k hk => Or.inr (Nat.le_trans HB5.out.size hk)) HB5.out HB5.out.size (by have := LM.out; unfold LIM at this; simp; omega) ?_; (case ha => exact fun k hk => ⟨Or.inl hk.1, fun he => (by obtain ⟨b, hb1, hb2⟩ := HN.out; have h1 := he.trans hb1; injection h1 with h1; have := hk.2; omega)⟩); intro v187 w9 ho hb hg hat; have HO2 := Aside0.mk ho; have HB2 := Aside0.mk hb; clear ho hb hg hat))
    go_ret
    exact ⟨_, rfl, HO2.out, HB2.out⟩
end Go.Proofs.Ytfojpobblebigaa.P
namespace Go.Proofs.Ytfojpobblebigaa.P
open Go.RowKit Go.Proofs.YtfojpobblebigaaW.PrintWords Go.Proofs.YtfojpobblebigaaW.PrintLast Go.Proofs.YtfojpobblebigaaW.PrintMore
set_option linter.unusedVariables false
set_option linter.unusedSimpArgs false

/-- The first place at which p holds, or -1. -/
def idxI {α : Type} (p : α → Bool) (zs : List α) : Int := if zs.any p then (zs.findIdx p : Int) else -1
theorem idxI_hit {α : Type} (p : α → Bool) (zs : List α) (d : α) (k : Nat) (hk : k < zs.length) (h : p (zs.getD k d) = true) (hb : ∀ j, j < k → p (zs.getD j d) = false) : idxI p zs = (k : Int) := by
  have hg : zs.getD k d = zs[k] := by simp [List.getD_eq_getElem?_getD, hk]
  rw [hg] at h
  have h1 : zs.any p = true := by rw [List.any_eq_true]; exact ⟨zs[k], List.getElem_mem _, h⟩
  unfold idxI
  rw [if_pos h1]
  have : zs.findIdx p = k := by
    rw [List.findIdx_eq hk]
    refine ⟨h, fun j hj => ?_⟩
    have := hb j hj
    have hjl : j < zs.length := by omega
    simpa [List.getD_eq_getElem?_getD, hjl] using this
  rw [this]
theorem idxI_miss {α : Type} (p : α → Bool) (zs : List α) (d : α) (hb : ∀ j, j < zs.length → p (zs.getD j d) = false) : idxI p zs = -1 := by
  have h1 : ¬ (zs.any p = true) := by
    rw [List.any_eq_true]
    rintro ⟨x, hx, hp⟩
    obtain ⟨j, hj, rfl⟩ := List.getElem_of_mem hx
    have := hb j hj
    rw [List.getD_eq_getElem?_getD, List.getElem?_eq_getElem hj] at this
    simp at this
    rw [hp] at this
    cases this
  unfold idxI
  rw [if_neg h1]
theorem idxI_any {α : Type} (p : α → Bool) (zs : List α) : decide (0 ≤ idxI p zs) = zs.any p := by
  unfold idxI
  cases h : zs.any p <;> simp

set_option maxHeartbeats 4000000 in
set_option maxRecDepth 100000 in
theorem idxR (p : S30 → Bool) (g : Nat) (lb : Array Value) (eg : ∀ args w, (callFunc g args).run Try.prog w = .ok (.enter g args) w) (A0 : Option Addr) (n c0 : Nat) (zs : List S30) (w : World)
    (hr : Kd.C k30 w A0 n zs)
    (hp : ∀ (W : World) (x : S30), Below w.heap.size w W → Calls Try.prog g (#[.agg #[.int .i64 x.f0, .int .i64 x.f1, .int .i64 x.f2]] ++ lb) W fun e w' => e = .returned (.bool (p x)) ∧ Below w.heap.size w w') :
    Calls Try.prog 63 #[.slice A0 n c0, .func (.func g) #[] lb] w fun e w' => e = .returned (.int .i64 (idxI p zs)) ∧ Below w.heap.size w w' := by
  have HR := Aside0.mk hr
  have HP := Aside0.mk hp
  clear hr hp
  have hlen : n = zs.length := HR.out.1.symm
  subst hlen
  have hmax : zs.length ≤ 9223372036854775807 := HR.out.2.1
  have hu := Try.underlying30
  go_enter Try.func63, Try.ntmps63
  go_wp2
  go_loopg [5, 8] zs.length (fun gg _ s8 wr => ∃ kk : Nat, kk ≤ zs.length ∧ zs.length - kk ≤ gg ∧ s8 = .int .i64 kk ∧ Aside0 (Below w.heap.size w wr) ∧ Aside0 (∀ j, j < kk → p (zs.getD j z30) = false))
  case atStart => exact ⟨0, Nat.zero_le _, by omega, rfl, ⟨Below.refl _ w⟩, ⟨fun j hj => absurd hj (Nat.not_lt_zero _)⟩⟩
  case round =>
    obtain ⟨kk, hkk, hg, rfl, BW, AF⟩ := hrel
    by_cases hlt : kk < zs.length
    · have hltz : (kk : Int) < (zs.length : Int) := by omega
      obtain ⟨ad, rfl, hc0, hc1, hc2⟩ := at_T30 (Kd.C_below HR.out (w1 := wr) ⟨BW.out.os, BW.out.tape, BW.out.output, BW.out.size, BW.out.block⟩) (kk : Int) (by omega) hltz
      rw [show rd_T30 zs (kk : Int) = zs.getD kk z30 from rfl, Int.toNat_natCast] at hc0 hc1 hc2
      have hcall := HP.out wr (zs.getD kk z30) BW.out
      generalize hy : zs.getD kk z30 = y at hc0 hc1 hc2 hc2 hcall
      have B := Aside0.mk hy
      clear hy
      cases hq : p y with
      | true =>
        rw [hq] at hcall
        have HQ := Aside0.mk hq
        clear hq
        go_wp2_with (go_at_fn g; refine hcall.mono ?_; rintro e w' ⟨rfl, hb'⟩)
        go_ret
        refine ⟨?_, hb'⟩
        rw [idxI_hit p zs z30 kk hlt (by rw [B.out]; exact HQ.out) AF.out]
        rfl
      | false =>
        rw [hq] at hcall
        have HQ := Aside0.mk hq
        clear hq
        go_wp2_with (go_at_fn g; refine hcall.mono ?_; rintro e w' ⟨rfl, hb'⟩)
        go_roundg (zs.length - (kk + 1))
        case measure => omega
        case rel =>
          refine ⟨kk + 1, by omega, by omega, by go_num, ⟨hb'⟩, ⟨fun j hj => ?_⟩⟩
          by_cases e : j = kk
          · subst e
            rw [B.out]; exact HQ.out
          · exact AF.out j (by omega)
    · have hltz : ¬ (kk : Int) < (zs.length : Int) := by omega
      have hk2 : kk = zs.length := by omega
      subst hk2
      go_wp2
      go_ret
      exact ⟨by rw [idxI_miss p zs z30 AF.out]; rfl, BW.out⟩

set_option maxHeartbeats 4000000 in
set_option maxRecDepth 100000 in
theorem idxT (p : S33 → Bool) (g : Nat) (lb : Array Value) (eg : ∀ args w, (callFunc g args).run Try.prog w = .ok (.enter g args) w) (A0 : Option Addr) (n c0 : Nat) (zs : List S33) (w : World)
    (hr : Kd.C k33 w A0 n zs)
    (hp : ∀ (W : World) (x : S33), Below w.heap.size w W → Calls Try.prog g (#[.agg #[.int .i64 x.f0, .int .i64 x.f1]] ++ lb) W fun e w' => e = .returned (.bool (p x)) ∧ Below w.heap.size w w') :
    Calls Try.prog 57 #[.slice A0 n c0, .func (.func g) #[] lb] w fun e w' => e = .returned (.int .i64 (idxI p zs)) ∧ Below w.heap.size w w' := by
  have HR := Aside0.mk hr
  have HP := Aside0.mk hp
  clear hr hp
  have hlen : n = zs.length := HR.out.1.symm
  subst hlen
  have hmax : zs.length ≤ 9223372036854775807 := HR.out.2.1
  have hu := Try.underlying33
  go_enter Try.func57, Try.ntmps57
  go_wp2
  go_loopg [5, 8] zs.length (fun gg _ s8 wr => ∃ kk : Nat, kk ≤ zs.length ∧ zs.length - kk ≤ gg ∧ s8 = .int .i64 kk ∧ Aside0 (Below w.heap.size w wr) ∧ Aside0 (∀ j, j < kk → p (zs.getD j z33) = false))
  case atStart => exact ⟨0, Nat.zero_le _, by omega, rfl, ⟨Below.refl _ w⟩, ⟨fun j hj => absurd hj (Nat.not_lt_zero _)⟩⟩
  case round =>
    obtain ⟨kk, hkk, hg, rfl, BW, AF⟩ := hrel
    by_cases hlt : kk < zs.length
    · have hltz : (kk : Int) < (zs.length : Int) := by omega
      obtain ⟨ad, rfl, hc0, hc1⟩ := at_T33 (Kd.C_below HR.out (w1 := wr) ⟨BW.out.os, BW.out.tape, BW.out.output, BW.out.size, BW.out.block⟩) (kk : Int) (by omega) hltz
      rw [show rd_T33 zs (kk : Int) = zs.getD kk z33 from rfl, Int.toNat_natCast] at hc0 hc1
      have hcall := HP.out wr (zs.getD kk z33) BW.out
      generalize hy : zs.getD kk z33 = y at hc0 hc1 hcall
      have B := Aside0.mk hy
      clear hy
      cases hq : p y with
      | true =>
        rw [hq] at hcall
        have HQ := Aside0.mk hq
        clear hq
        go_wp2_with (go_at_fn g; refine hcall.mono ?_; rintro e w' ⟨rfl, hb'⟩)
        go_ret
        refine ⟨?_, hb'⟩
        rw [idxI_hit p zs z33 kk hlt (by rw [B.out]; exact HQ.out) AF.out]
        rfl
      | false =>
        rw [hq] at hcall
        have HQ := Aside0.mk hq
        clear hq
        go_wp2_with (go_at_fn g; refine hcall.mono ?_; rintro e w' ⟨rfl, hb'⟩)
        go_roundg (zs.length - (kk + 1))
        case measure => omega
        case rel =>
          refine ⟨kk + 1, by omega, by omega, by go_num, ⟨hb'⟩, ⟨fun j hj => ?_⟩⟩
          by_cases e : j = kk
          · subst e
            rw [B.out]; exact HQ.out
          · exact AF.out j (by omega)
    · have hltz : ¬ (kk : Int) < (zs.length : Int) := by omega
      have hk2 : kk = zs.length := by omega
      subst hk2
      go_wp2
      go_ret
      exact ⟨by rw [idxI_miss p zs z33 AF.out]; rfl, BW.out⟩

set_option maxHeartbeats 4000000 in
set_option maxRecDepth 100000 in
theorem conR (p : S30 → Bool) (g : Nat) (lb : Array Value) (eg : ∀ args w, (callFunc g args).run Try.prog w = .ok (.enter g args) w) (A0 : Option Addr) (n c0 : Nat) (zs : List S30) (w : World)
    (hr : Kd.C k30 w A0 n zs)
    (hp : ∀ (W : World) (x : S30), Below w.heap.size w W → Calls Try.prog g (#[.agg #[.int .i64 x.f0, .int .i64 x.f1, .int .i64 x.f2]] ++ lb) W fun e w' => e = .returned (.bool (p x)) ∧ Below w.heap.size w w') :
    Calls Try.prog 54 #[.slice A0 n c0, .func (.func g) #[] lb] w fun e w' => e = .returned (.bool (zs.any p)) ∧ Below w.heap.size w w' := by
  have HC := Aside0.mk (idxR p g lb eg A0 n c0 zs w hr hp)
  have HA := Aside0.mk (idxI_any p zs)
  clear hr hp
  generalize hi : idxI p zs = i at HC HA
  generalize zs.any p = b at HA ⊢
  clear hi
  obtain rfl : decide (0 ≤ i) = b := HA.out
  clear HA
  go_enter Try.func54, Try.ntmps54
  go_wp2_with (go_at_call 63; refine HC.out.mono ?_; rintro e w' ⟨rfl, hb'⟩)
  all_goals (go_ret; exact ⟨by first | rfl | simp_all | (simp; omega), hb'⟩)

set_option maxHeartbeats 4000000 in
set_option maxRecDepth 100000 in
theorem eqR (W : World) (x : S30) (b : Nat) (s : Int) (hc : W.cell? ⟨b, 0, none⟩ = some (.int .i64 s)) : Calls Try.prog 55 (#[.agg #[.int .i64 x.f0, .int .i64 x.f1, .int .i64 x.f2]] ++ #[.pointer (some ⟨b, 0, none⟩)]) W fun e w' => e = .returned (.bool (x.f0 == s)) ∧ Below W.heap.size W w' := by
  show Calls Try.prog 55 #[.agg #[.int .i64 x.f0, .int .i64 x.f1, .int .i64 x.f2], .pointer (some ⟨b, 0, none⟩)] W _
  have hlt := World.block_lt_of_cell? W _ hc
  go_enter Try.func55, Try.ntmps55
  go_wp2
  go_ret
  exact ⟨by first | rfl | simp, (Below.refl _ _).alloc (Nat.le_refl _) _⟩
set_option maxHeartbeats 4000000 in
set_option maxRecDepth 100000 in
theorem eqT (W : World) (x : S33) (b : Nat) (s : Int) (hc : W.cell? ⟨b, 0, none⟩ = some (.int .i64 s)) : Calls Try.prog 58 (#[.agg #[.int .i64 x.f0, .int .i64 x.f1]] ++ #[.pointer (some ⟨b, 0, none⟩)]) W fun e w' => e = .returned (.bool (x.f0 == s)) ∧ Below W.heap.size W w' := by
  show Calls Try.prog 58 #[.agg #[.int .i64 x.f0, .int .i64 x.f1], .pointer (some ⟨b, 0, none⟩)] W _
  have hlt := World.block_lt_of_cell? W _ hc
  go_enter Try.func58, Try.ntmps58
  go_wp2
  go_ret
  exact ⟨by first | rfl | simp, (Below.refl _ _).alloc (Nat.le_refl _) _⟩
set_option maxHeartbeats 4000000 in
set_option maxRecDepth 100000 in
theorem gtT (W : World) (x : S33) (b : Nat) (s : Int) (hc : W.cell? ⟨b, 0, none⟩ = some (.int .i64 s)) : Calls Try.prog 59 (#[.agg #[.int .i64 x.f0, .int .i64 x.f1]] ++ #[.pointer (some ⟨b, 0, none⟩)]) W fun e w' => e = .returned (.bool (decide (s < x.f0))) ∧ Below W.heap.size W w' := by
  show Calls Try.prog 59 #[.agg #[.int .i64 x.f0, .int .i64 x.f1], .pointer (some ⟨b, 0, none⟩)] W _
  have hlt := World.block_lt_of_cell? W _ hc
  go_enter Try.func59, Try.ntmps59
  go_wp2
  go_ret
  exact ⟨by first | rfl | simp, (Below.refl _ _).alloc (Nat.le_refl _) _⟩
end Go.Proofs.Ytfojpobblebigaa.P
namespace Go.Proofs.Ytfojpobblebigaa.P
open Go.RowKit Go.Proofs.YtfojpobblebigaaW.PrintWords Go.Proofs.YtfojpobblebigaaW.PrintLast Go.Proofs.YtfojpobblebigaaW.PrintMore
set_option linter.unusedVariables false
set_option linter.unusedSimpArgs false

/-- One more read, unless the location is read already. -/
def readStep (l : List S30) (s : S30) : List S30 := if l.any (fun x => x.f0 == s.f0) then l else l ++ [s]
def readL (l more : List S30) : List S30 := more.foldl readStep l
theorem readStep_len (l : List S30) (s : S30) : (readStep l s).length ≤ l.length + 1 := by
  unfold readStep
  split <;> simp
theorem readL_take (l more : List S30) (k : Nat) (hk : k < more.length) : readL l (more.take (k + 1)) = readStep (readL l (more.take k)) (more.getD k z30) := by
  unfold readL
  rw [List.take_add_one, List.foldl_append, List.getD_eq_getElem?_getD, List.getElem?_eq_getElem hk]
  rfl

/-- What a pointer to a level needs: its block, its cell, unfrozen. -/
theorem lp_cell {w : World} {g : Nat} {cs : Array Value} {u : Value} (hb : w.heap[g]? = some (.cells cs 62 (0, 0))) {i : Nat} (h : cs[i]? = some u) : w.cell? ⟨g, i, none⟩ = some u ∧ w.frozen? ⟨g, i, none⟩ = false := ⟨(blk_cell hb i).trans h, blk_frozen hb i⟩
/-- What is own of a row without inner rows: its block alone. -/
theorem Kd.N_own30 {w : World} {e base : Nat} {ok : Nat → Prop} {v : Value} {xs : List S30} (h : Kd.N k30 e w base ok v xs) : Kd.N k30 e w base (fun k => base ≤ k) v xs := by
  obtain ⟨h0, rows, hl, hR, hf⟩ := h
  exact ⟨Kd.N_base ⟨h0, rows, hl, hR, hf⟩, rows, hl, hR, fun j x c hx hc => by obtain rfl := k30_open (Kd.FK_now (hf j x c hx hc)); exact k30_mkF _ _ _⟩
theorem lp_get {cs : Array Value} {i : Nat} {u v : Value} (h : cs[i]? = some u) : (cs.setIfInBounds i v)[i]? = some v := by
  have := (Array.getElem?_eq_some_iff.1 h).1
  simp [this]

set_option maxHeartbeats 8000000 in
set_option maxRecDepth 100000 in
theorem read_walk (w : World) (g off : Nat) (cs : Array Value) (A : Option Addr) (n c : Nat) (rd : List S30) (Am : Option Addr) (nm cm : Nat) (more : List S30)
    (hb : w.heap[g]? = some (.cells cs 62 (0, 0))) (ho : cs[off]? = some (.slice A n c)) (hr : Kd.C k30 w A n rd) (hc : n ≤ c)
    (hm : ∀ W', KeepBut w W' g none → Kd.C k30 W' Am nm more) (hl : rd.length + more.length ≤ LIM) :
    Calls Try.prog 38 #[.pointer (some ⟨g, off, none⟩), .slice Am nm cm] w fun e w' => e = .returned (.tuple #[]) ∧ ∃ v : Value,
      w'.heap[g]? = some (.cells (cs.setIfInBounds off v) 62 (0, 0)) ∧ Kd.N k30 30 w' w.heap.size (fun k => w.heap.size ≤ k) v (readL rd more) ∧ KeepBut w w' g none ∧ Below 0 w w' := by
  have HBK := Aside0.mk hb
  have HO := Aside0.mk ho
  have HM := Aside0.mk hm
  have HL := Aside0.mk hl
  have hg := blk_lt hb
  have HG := Aside0.mk hg
  obtain ⟨f1, f2⟩ := lp_cell hb ho
  have HCL := Aside0.mk (cloneR (fun _ => True) A n c rd w (fun W' h => Kd.Heap.C k30_heap (fun k hk => h k trivial hk) hr) hc (by omega))
  have hnm : more.length = nm := (HM.out w (KeepBut.refl w g none)).1
  have hnm2 : nm ≤ 9223372036854775807 := (HM.out w (KeepBut.refl w g none)).2.1
  subst hnm
  clear hb ho hm hl hr hg
  have eg55 := enters_of Try.func55 (by kernel_rfl) rfl
  go_enter Try.func38, Try.ntmps38
  go_wp2_with (go_at_call 45; refine HCL.out.mono ?_; rintro e w1 ⟨v, rfl, hN, hB1⟩; obtain ⟨A1, c1, rfl⟩ := Kd.N_slice hN; have h1 := pw_cell_below hB1 f1; have h2 := (hB1.frozen (p := ⟨g, off, none⟩) HG.out).trans f2)
  have hbk1 := blk_set (blk_below HBK.out hB1) off (.slice A1 rd.length c1)
  have hN2 := Kd.N_far (p := ⟨g, off, none⟩) (Kd.N_own30 hN) (fun k hk e => by have := HG.out; simp only at e; omega) (.slice A1 rd.length c1)
  have hK2 := (KeepBut.of_below hB1 g none).set_ off (.slice A1 rd.length c1)
  have HZ2 := Aside0.mk ((hB1.mono (Nat.zero_le _)).setCell (p := ⟨g, off, none⟩) (Nat.zero_le _) (.slice A1 rd.length c1))
  have HN2 := Aside0.mk hN2
  have HK2 := Aside0.mk hK2
  have HB2 := Aside0.mk hbk1
  clear hN hB1 h1 h2 hbk1 hN2 hK2 f1 f2
  generalize w1.setCell ⟨g, off, none⟩ (.slice A1 rd.length c1) = w2 at HN2 HK2 HB2 HZ2 ⊢
  go_loopg [5, 16] more.length (fun gg _ s16 wr => ∃ kk : Nat, kk ≤ more.length ∧ more.length - kk ≤ gg ∧ s16 = .int .i64 kk ∧ ∃ A3 c3, Aside0 (wr.heap[g]? = some (.cells (cs.setIfInBounds off (.slice A3 (readL rd (more.take kk)).length c3)) 62 (0, 0))) ∧ Aside0 (Kd.N k30 30 wr w.heap.size (fun k => w.heap.size ≤ k) (.slice A3 (readL rd (more.take kk)).length c3) (readL rd (more.take kk))) ∧ Aside0 (KeepBut w wr g none) ∧ Aside0 ((readL rd (more.take kk)).length ≤ rd.length + kk) ∧ Aside0 (Below 0 w wr))
  case atStart => exact ⟨0, Nat.zero_le _, by omega, rfl, A1, c1, HB2, HN2, HK2, ⟨Nat.le_refl _⟩, HZ2⟩
  case round =>
    clear HN2 HK2 HB2 HZ2
    obtain ⟨kk, hkk, hgg, rfl, A3, c3, HB3, HN3, HK3, HL3, HZ3⟩ := hrel
    by_cases hlt : kk < more.length
    · have hlt' : (kk : Int) < (more.length : Int) := by omega
      obtain ⟨ad, rfl, q0, q1, q2⟩ := at_T30 (HM.out wr HK3.out) (kk : Int) (by omega) hlt'
      rw [show rd_T30 more (kk : Int) = more.getD kk z30 from rfl, Int.toNat_natCast] at q0 q1 q2
      have HS := Aside0.mk (readL_take rd more kk hlt)
      generalize more.getD kk z30 = s at q0 q1 q2 HS
      obtain ⟨f1, f2⟩ := lp_cell HB3.out (lp_get HO.out)
      have hgl := blk_lt HB3.out
      generalize hacc : readL rd (more.take kk) = acc at *
      obtain ⟨p0, p1, p2⟩ := Kd.N_reads' HN3.out
      obtain ⟨B, hB⟩ : ∃ B, B = wr.heap.size := ⟨_, rfl⟩
      have HCON := Aside0.mk (fun W (hb : Below wr.heap.size wr W) (hc : W.cell? ⟨wr.heap.size, 0, none⟩ = some (.int .i64 s.f0)) => conR (fun x => x.f0 == s.f0) 55 #[.pointer (some ⟨wr.heap.size, 0, none⟩)] eg55 A3 acc.length c3 acc W (Kd.C_below p2 hb) (fun W' x hbW => (eqR W' x wr.heap.size s.f0 ((hbW.cell (p := ⟨wr.heap.size, 0, none⟩) (World.block_lt_of_cell? W _ hc)).trans hc)).mono (fun _ _ hq => ⟨hq.1, hbW.trans (hq.2.mono hbW.size)⟩)))
      clear p0 p1 p2
      obtain ⟨s0, s1, s2⟩ := s
      simp only at q0 q1 q2 HCON
      cases hq : acc.any (fun x => x.f0 == s0) with
      | true =>
        rw [hq] at HCON
        have HQ := Aside0.mk hq
        clear hq
        go_wp2_with (go_at_call 54; refine (HCON.out _ (below_alloc (Below.refl _ _) _) (by simp)).mono ?_; rintro e w4 ⟨rfl, hb4⟩)
        have hW : Below wr.heap.size wr w4 := (below_alloc (Below.refl _ _) _).trans (hb4.mono (by simp))
        go_roundg (more.length - (kk + 1))
        case measure => omega
        case rel =>
          have he : readL rd (more.take (kk + 1)) = acc := by rw [HS.out]; unfold readStep; rw [if_pos HQ.out]
          refine ⟨kk + 1, by omega, by omega, by go_num, A3, c3, ?_⟩
          rw [he]
          exact ⟨⟨blk_below HB3.out hW⟩, ⟨Kd.N_below HN3.out hW⟩, ⟨HK3.out.trans (KeepBut.of_below hW g none) (.inl rfl)⟩, ⟨by have := HL3.out; omega⟩, ⟨HZ3.out.trans (hW.mono (Nat.zero_le _))⟩⟩
      | false =>
        rw [hq] at HCON
        have HQ := Aside0.mk hq
        clear hq
        go_wp2_with (go_at_call 54; refine (HCON.out _ (below_alloc (Below.refl _ _) _) (by simp)).mono ?_; rintro e w4 ⟨rfl, hb4⟩)
        have hW : Below wr.heap.size wr w4 := (below_alloc (Below.refl _ _) _).trans (hb4.mono (by simp))
        have e1 := pw_cell_below hW f1
        have e2 := (hW.frozen (p := ⟨g, off, none⟩) hgl).trans f2
        have e3 : w4.cell? ⟨B, 0, none⟩ = some (.int .i64 s0) := by rw [hB]; exact (hb4.cell (p := ⟨wr.heap.size, 0, none⟩) (by simp)).trans (by simp)
        have e4 : w4.cell? ⟨B, 1, none⟩ = some (.int .i64 s1) := by rw [hB]; exact (hb4.cell (p := ⟨wr.heap.size, 1, none⟩) (by simp)).trans (by simp)
        have e5 : w4.cell? ⟨B, 2, none⟩ = some (.int .i64 s2) := by rw [hB]; exact (hb4.cell (p := ⟨wr.heap.size, 2, none⟩) (by simp)).trans (by simp)
        have HB4 := Aside0.mk (blk_below HB3.out hW)
        have HN4 := Aside0.mk (Kd.N_below HN3.out hW)
        have HZ4 := Aside0.mk (HZ3.out.trans (hW.mono (Nat.zero_le _)))
        have HK4 := Aside0.mk (HK3.out.trans (KeepBut.of_below hW g none) (.inl rfl))
        have HNE := Aside0.mk (show some g ≠ (Value.slice A3 acc.length c3).ownBlock from fun he => by have h9 := Kd.N_base HN3.out g he.symm; have := HG.out; omega)
        have hg4 : g < w4.heap.size := blk_lt HB4.out
        have hB4 : B < w4.heap.size := World.block_lt_of_cell? w4 _ e3
        have e1' := fun o => World.cell?_alloc_lt w4.drew o ⟨g, off, none⟩ hg4
        rw [← hB]
        clear hW hb4 f1 f2 q0 q1 q2 HCON HCL hB
        go_region_law (refine Kd.N_append_step k30 (w0 := w4) w.heap.size rfl (.tmp 31) (.tmp 33) 23 30 _ 24 rfl Try.underlying23 info30 rfl (by decide) (by decide) (.slice A3 acc.length c3) acc ⟨s0, s1, s2⟩ [.int .i64 s0, .int .i64 s1, .int .i64 s2] (fun k => w.heap.size ≤ k) (fun _ => False) rfl rfl (k30_mkF _ _ _) (fun _ h => h.elim) (fun k hk => Nat.le_trans HK4.out.1 (Nat.le_trans (by simp) hk)) (Kd.N_drew HN4.out) (below_drew (Below.refl _ _)) (by have := HK4.out.1; simpa using this) (by have h9 := HL.out; have h8 := HL3.out; unfold LIM at h9; omega) ?_; intro v1 w5 hN5 hB5 hG5 hat; obtain ⟨A5, c5, rfl⟩ := Kd.N_slice hN5; have hb5 := blk_grown (blk_drew HB4.out) hG5 HNE.out; obtain ⟨e6, e7⟩ := lp_cell hb5 (lp_get HO.out))
        all_goals go_wp2
        all_goals
          clear e1' e1 e2 e3 e4 e5 e6 e7
          have hl5 : (acc ++ [(⟨s0, s1, s2⟩ : S30)]).length = acc.length + 1 := by simp
          rw [hl5] at hN5 hat
          go_roundg (more.length - (kk + 1))
          case measure => omega
          case rel =>
            have he : readL rd (more.take (kk + 1)) = acc ++ [⟨s0, s1, s2⟩] := by rw [HS.out]; unfold readStep; rw [if_neg (by rw [HQ.out]; simp)]
            refine ⟨kk + 1, by omega, by omega, by go_num, A5, c5, ?_⟩
            rw [he, hl5]
            have hbk := blk_set hb5 off (.slice A5 (acc.length + 1) c5)
            rw [Array.setIfInBounds_setIfInBounds] at hbk
            have hk5 : KeepBut w w5 g none := ⟨Nat.le_trans HK4.out.1 (by simpa using hG5.size), fun i hi hne _ => (hG5.block i (by have := HK4.out.1; simp; omega) (fun he => by have h9 := Kd.N_base HN4.out i he.symm; omega)).trans (HK4.out.2 i hi hne (by simp))⟩
            exact ⟨⟨hbk⟩, ⟨Kd.N_far (p := ⟨g, off, none⟩) hN5 (fun k hk e => by have := HG.out; simp only at e; omega) _⟩, ⟨hk5.set_ off _⟩, ⟨by have := HL3.out; omega⟩, ⟨(HZ4.out.trans (hB5.mono (Nat.zero_le _))).setCell (p := ⟨g, off, none⟩) (Nat.zero_le _) _⟩⟩
    · have hk2 : kk = more.length := by omega
      subst hk2
      have hlt' : ¬ (more.length : Int) < (more.length : Int) := by omega
      go_wp2
      rw [List.take_length] at HB3 HN3
      exact bodyPost_end (results_none rfl _ _ _) rfl ⟨rfl, _, HB3.out, HN3.out, HK3.out, HZ3.out⟩

set_option maxHeartbeats 8000000 in
set_option maxRecDepth 100000 in
theorem keep_walk (w : World) (g off : Nat) (cs : Array Value) (P Pm : Nat → Prop) (A : Option Addr) (n c : Nat) (us : List S50) (Am : Option Addr) (nm cm : Nat) (more : List S50)
    (hb : w.heap[g]? = some (.cells cs 62 (0, 0))) (ho : cs[off + 2]? = some (.slice A n c)) (hr : Kd.F k50 w P A n us) (hc : n ≤ c)
    (hm : Kd.F k50 w Pm Am nm more) (hP : ∀ k, P k → k ≠ g) (hPm : ∀ k, Pm k → k ≠ g) (hl : us.length + more.length ≤ LIM) :
    Calls Try.prog 51 #[.pointer (some ⟨g, off, none⟩), .slice Am nm cm] w fun e w' => e = .returned (.tuple #[]) ∧ ∃ v : Value,
      w'.heap[g]? = some (.cells (cs.setIfInBounds (off + 2) v) 62 (0, 0)) ∧ Kd.N k50 50 w' w.heap.size (fun k => (P k ∨ Pm k) ∨ w.heap.size ≤ k) v (us ++ more) ∧ KeepBut w w' g none ∧ Below 0 w w' := by
  have HBK := Aside0.mk hb
  have HO := Aside0.mk ho
  have HM := Aside0.mk hm
  have HL := Aside0.mk hl
  have hg := blk_lt hb
  have HG := Aside0.mk hg
  have HP := Aside0.mk hP
  have HPm := Aside0.mk hPm
  obtain ⟨f1, f2⟩ := lp_cell hb ho
  have HCL := Aside0.mk (cloneU P A n c us w hr hc (by omega))
  obtain rfl : more.length = nm := Kd.F_len hm
  clear hb ho hm hl hr hg hP hPm
  go_enter Try.func51, Try.ntmps51
  go_wp2_with (first | (go_at_call 43; refine HCL.out.mono ?_; rintro e w1 ⟨v, rfl, hN, hB1⟩; obtain ⟨A1, c1, rfl⟩ := Kd.N_slice hN; have HN := Aside0.mk (Kd.N_mono (ok' := fun k => (P k ∨ Pm k) ∨ w.heap.size ≤ k) hN (fun k hk => hk.elim (fun h => .inl (.inl h)) .inr)); have HB1 := Aside0.mk hB1; clear hN hB1) | ((with_reducible refine gate_builtin (b := .append) (xs := #[.tmp 9, .tmp 10]) rfl ?_); at_builtin; refine Kd.N_append_rows k50 (w0 := w) w.heap.size rfl (.tmp 9) (.tmp 10) 34 50 _ 56 rfl Try.underlying34 info50 rfl (by decide) (by omega) (.slice A1 us.length c1) us more Am more.length cm (fun k => (P k ∨ Pm k) ∨ w.heap.size ≤ k) (fun k => Pm k ∧ k < w.heap.size) rfl rfl HN.out (Kd.F_old HM.out HB1.out) ?ha (fun k hk => Or.inr (Nat.le_trans HB1.out.size hk)) HB1.out HB1.out.size (by have h9 := HL.out; unfold LIM at h9; omega) ?_; (case ha => exact fun k hk => ⟨Or.inl (Or.inr hk.1), fun he => (by have h9 := Kd.N_base HN.out k he.symm; have := hk.2; omega)⟩); intro v2 w2 hN2 hB2 hG2 hat; obtain ⟨A2, c2, rfl⟩ := Kd.N_slice hN2; have hb2 := blk_grown (blk_below HBK.out HB1.out) hG2 (fun he => by have h9 := Kd.N_base HN.out g he.symm; have := HG.out; omega); obtain ⟨e6, e7⟩ := lp_cell hb2 HO.out))
  have hbk := blk_set hb2 (off + 2) (.slice A2 (us ++ more).length c2)
  have hn5 := Kd.N_far (p := ⟨g, off + 2, none⟩) hN2 (fun k hk e => by
    rcases hk with (hk | hk) | hk
    · exact HP.out k hk e
    · exact HPm.out k hk e
    · have := HG.out; simp only at e; omega) (.slice A2 (us ++ more).length c2)
  have hk5 : KeepBut w w2 g none := KeepBut.of_below hB2 g none
  have hk6 := hk5.set_ (off + 2) (.slice A2 (us ++ more).length c2)
  have hz6 := (hB2.mono (Nat.zero_le _)).setCell (p := ⟨g, off + 2, none⟩) (Nat.zero_le _) (.slice A2 (us ++ more).length c2)
  have hll : (us ++ more).length = us.length + more.length := List.length_append
  rw [hll] at hbk hn5 hk6 hz6
  exact bodyPost_end (results_none rfl _ _ _) rfl ⟨rfl, _, hbk, hn5, hk6, hz6⟩
end Go.Proofs.Ytfojpobblebigaa.P
namespace Go.Proofs.Ytfojpobblebigaa.P
open Go.RowKit Go.Proofs.YtfojpobblebigaaW.PrintWords Go.Proofs.YtfojpobblebigaaW.PrintLast Go.Proofs.YtfojpobblebigaaW.PrintMore
set_option linter.unusedVariables false
set_option linter.unusedSimpArgs false

def w2 (x : S33) : List Value := [.int .i64 x.f0, .int .i64 x.f1]
def wc (l : List S33) : List Value := l.flatMap w2
theorem wc_cons (x : S33) (l : List S33) : wc (x :: l) = w2 x ++ wc l := rfl
theorem wc_append (a b : List S33) : wc (a ++ b) = wc a ++ wc b := List.flatMap_append
theorem wc_len (l : List S33) : (wc l).length = l.length * 2 := by
  induction l with
  | nil => rfl
  | cons x l ih => rw [wc_cons, List.length_append, ih, List.length_cons]; show 2 + _ = _; omega
theorem wc_one (l : List S33) : ∀ v ∈ wc l, v.oneCell' = true := by
  intro v hv
  obtain ⟨x, _, hx⟩ := List.mem_flatMap.1 hv
  simp only [w2, List.mem_cons, List.not_mem_nil, or_false] at hx
  rcases hx with rfl | rfl <;> rfl
theorem wc_take (l : List S33) (i : Nat) : (wc l).take (i * 2) = wc (l.take i) := by
  induction l generalizing i with
  | nil => simp [wc]
  | cons x l ih =>
    cases i with
    | zero => simp [wc]
    | succ i =>
      rw [List.take_succ_cons, wc_cons, wc_cons, ← ih i, show (i + 1) * 2 = i * 2 + 2 by omega]
      rfl
theorem wc_drop (l : List S33) (i : Nat) : (wc l).drop (i * 2) = wc (l.drop i) := by
  induction l generalizing i with
  | nil => simp [wc]
  | cons x l ih =>
    cases i with
    | zero => simp [wc]
    | succ i =>
      rw [List.drop_succ_cons, wc_cons, ← ih i, show (i + 1) * 2 = i * 2 + 2 by omega]
      rfl
theorem reps_wc (l : List S33) : Reps (fun x c => c = w2 x) 2 l (wc l) := by
  refine ⟨wc_len l, fun j x hj => ?_⟩
  obtain ⟨hl, rfl⟩ := List.getElem?_eq_some_iff.1 hj
  rw [wc_drop, List.drop_eq_getElem_cons hl, wc_cons]
  rfl
theorem reps_wc_eq : ∀ (l : List S33) (inner : List Value), Reps (fun x c => c = w2 x) 2 l inner → inner = wc l
  | [], inner, h => by
    have := h.1
    simpa [wc] using this
  | x :: l, inner, h => by
    have h0 := h.2 0 x rfl
    rw [Nat.zero_mul, List.drop_zero] at h0
    have ih := reps_wc_eq l (inner.drop 2) ⟨by rw [List.length_drop, h.1, List.length_cons]; omega, fun j y hj => by
      have := h.2 (j + 1) y hj
      rw [List.drop_drop]
      rwa [show 2 + j * 2 = (j + 1) * 2 by omega]⟩
    rw [wc_cons, ← h0, ← ih, List.take_append_drop]
theorem own_of_N33 {w : World} {base : Nat} {ok : Nat → Prop} {v : Value} {l : List S33} (h : Kd.N k33 33 w base ok v l) : w.ownsRow base 33 2 v l.length (wc l) := by
  obtain ⟨h0, rows, hl, ⟨_, inner, ho, hr⟩, hf⟩ := h
  have : Reps (fun x c => c = w2 x) 2 l inner := by
    refine ⟨by rw [← hl]; exact hr.1, fun j x hj => ?_⟩
    have hjl := (List.getElem?_eq_some_iff.1 hj).1
    have hc := List.getElem?_eq_getElem (l := rows) (i := j) (by omega)
    have h1 := (hr.2 j _ hc).1
    have h2 := k33_open (Kd.FK_now (hf j x _ hj hc))
    exact h1.trans h2
  rw [← reps_wc_eq l inner this, ← hl]
  exact ho
theorem N33_of_own {w : World} {base : Nat} {v : Value} {l : List S33} (h : w.ownsRow base 33 2 v l.length (wc l)) : Kd.N k33 33 w base (fun k => base ≤ k) v l :=
  Kd.R_N ⟨fun k hk => own_base h k hk, wc l, h, (reps_wc l).imp_ (fun x c hc => by subst hc; exact k33_mkM _ _ _ _)⟩

theorem run_copy_row2 (w : World) (dT sT ty elem : TypeId) (g o dLen dCap : Nat) (a : Addr) (sLen sCap : Nat) (cur : Array Value) (t : TypeId) (cs : List Value)
    (hu : Try.prog.underlying dT = some (.slice elem)) (hs : (Try.prog.info? elem).map (·.size) = some 2)
    (hg : w.heap[g]? = some (.cells cur t (0, 0))) (m : Nat) (hm : Nat.min sLen dLen = m) (hn : cs.length = m * 2)
    (hsrc : ∀ j v, cs[j]? = some v → w.cell? (a.add j) = some v) (hfit : o + cs.length ≤ cur.size) (h1 : ∀ v ∈ cs, v.oneCell' = true) :
    (Builtin.copy_ #[dT, sT] ty #[.slice (some ⟨g, o, none⟩) dLen dCap, .slice (some a) sLen sCap]).run Try.prog w =
      .ok (goInt m) (w.setRow g (cur.toList.take o ++ cs ++ cur.toList.drop (o + cs.length)).toArray) := by
  have hl := run_loadCells_list (P := Try.prog) w a cs hsrc
  have hst := run_storeCells_at Try.prog g o t cs 0 cur w hg (by simpa using hfit) h1
  cases hq : Try.prog.info? elem with
  | none => simp [hq] at hs
  | some i =>
    have hi : i.size = 2 := by simpa [hq] using hs
    simp [Builtin.copy_, run_underlying hu, Builtin.lenOf, Builtin.firstCells, sizeOf, typeInfo, hq, hi, hm, ← hn, hl, hst]
theorem size33 : (Try.prog.info? 33).map (·.size) = some 2 := by kernel_rfl

def ins (l : List S33) (i : Nat) (x : S33) : List S33 := l.take i ++ x :: l.drop i
theorem ins_len (l : List S33) (i : Nat) (x : S33) (hi : i ≤ l.length) : (ins l i x).length = l.length + 1 := by
  unfold ins
  rw [List.length_append, List.length_cons, List.length_take, List.length_drop]
  omega
theorem wc_ins (l : List S33) (i : Nat) (x : S33) : wc (ins l i x) = wc (l.take i) ++ (w2 x ++ wc (l.drop i)) := by
  unfold ins
  rw [wc_append, wc_cons]
theorem w2_len (x : S33) : (w2 x).length = 2 := rfl

open Go.Lib in
set_option maxHeartbeats 8000000 in
set_option maxRecDepth 100000 in
theorem insert_grow (g c i vb : Nat) (l : List S33) (x : S33) (w : World) (cur : Array Value) (hi : i < l.length) (hnc : l.length ≤ c) (hroom : c < l.length + 1) (hlim : l.length ≤ LIM)
    (hg : w.heap[g]? = some (.cells cur 33 (0, 0))) (hcur : cur.size = c * 2) (htk : cur.toList.take (l.length * 2) = wc l) (hv : w.heap[vb]? = some (.cells (w2 x).toArray 33 (0, 0))) :
    Calls Try.prog 60 #[.slice (some ⟨g, 0, none⟩) l.length c, .int .i64 i, .slice (some ⟨vb, 0, none⟩) 1 1] w fun e w' => ∃ G, 
      e = .returned (.slice (some ⟨w.heap.size, 0, none⟩) (l.length + 1) G) ∧ w'.ownsRow w.heap.size 33 2 (.slice (some ⟨w.heap.size, 0, none⟩) (l.length + 1) G) (l.length + 1) (wc (ins l i x)) ∧ Below w.heap.size w w' := by
  obtain ⟨i0, hi0, hz0, hzs, hzb⟩ := info_parts info33
  have hcs : ∀ j v, (wc l)[j]? = some v → w.cell? ⟨g, j, none⟩ = some v := fun j v hj => by
    rw [blk_cell hg j, ← Array.getElem?_toList]
    rw [← htk, List.getElem?_take] at hj
    split at hj
    · exact hj
    · cases hj
  have hvs : ∀ j v, (w2 x)[j]? = some v → w.cell? ⟨vb, j, none⟩ = some v := fun j v hj => by
    rw [blk_cell hv j]
    simpa using hj
  have hz2 : ¬ ((i : Int) = (l.length : Int)) := by omega
  have hz3 : (c : Int) < (l.length : Int) + 1 := by omega
  have hbw : g < w.heap.size := blk_lt hg
  have hvw : vb < w.heap.size := blk_lt hv
  have hkk : (l.length : Int) + 1 - (i : Int) = ((l.length + 1 - i : Nat) : Int) := by omega
  have hik : i + (l.length + 1 - i) = l.length + 1 := by omega
  have hold : (Builtin.firstCells i0.size i (.slice (some ⟨g, 0, none⟩) i c)).run Try.prog w.drew = .ok (wc (l.take i)).toArray w.drew := by
    rw [hzs]
    exact run_firstCells_some w.drew 2 i ⟨g, 0, none⟩ i c (wc (l.take i)) (by rw [wc_len, List.length_take]; omega) (fun j v hj => by
      rw [Addr.add_lit, Nat.zero_add]
      rw [← wc_take, List.getElem?_take] at hj
      split at hj
      · exact hcs j v hj
      · cases hj)
  obtain ⟨G, hG⟩ : ∃ G, G = grownCap w (l.length + 1) c 33 := ⟨_, rfl⟩
  have hGn : l.length + 1 ≤ G := by rw [hG]; exact grownCap_ge w _ _ _
  have hG63 : G ≤ 9223372036854775807 := by
    have := grownCap_le_maxLen w (l.length + 1) c 33 (by unfold maxLen; unfold LIM at hlim; omega)
    rw [← hG] at this
    unfold maxLen at this
    omega
  obtain ⟨ROW, hROW⟩ : ∃ ROW : Array Value, ROW = (wc (l.take i)).toArray ++ Builtin.zeroCells (Value.agg #[(.int .i64 0), (.int .i64 0)]).cells (l.length + 1 - i) ++ Builtin.zeroCells (Value.agg #[(.int .i64 0), (.int .i64 0)]).cells (G - (l.length + 1)) := ⟨_, rfl⟩
  have hrz : ∀ ty, (Builtin.append_ #[24, 3] ty #[.slice (some ⟨g, 0, none⟩) i c, .int .i64 ((l.length : Int) + 1 - (i : Int))]).run Try.prog w =
      .ok (.slice (some ⟨w.heap.size, 0, none⟩) (l.length + 1) G) (w.drew.alloc (.cells ROW 33)) := fun ty => by
    have h := Lib.run_append_grow_zeros w 24 3 ty 33 i0 _ .i64 .i64 Try.underlying24 Try.underlying3 hi0 hz0 (some ⟨g, 0, none⟩) i c (wc (l.take i)) hold (l.length + 1 - i) (by omega) (by omega) (by omega) (by unfold LIM at hlim; omega) (by rw [hzb]; unfold LIM at hlim; omega) (by rw [hzb, hik]; exact growslice_fits hroom (by unfold LIM at hlim; omega))
    rw [hik] at h
    rw [hkk, hROW, hG]
    exact h
  have hRs : ROW.size = G * 2 := by
    rw [hROW]
    simp [Builtin.zeroCells, Value.cells, wc_len]
    omega
  have hRt : ROW.toList.take (i * 2) = wc (l.take i) := by
    rw [hROW]
    simp only [Array.toList_append, List.append_assoc]
    rw [List.take_append_of_le_length (by rw [wc_len, List.length_take]; omega), List.take_of_length_le (by rw [wc_len, List.length_take]; omega)]
  have hcpA : ∀ (W : World), W.heap[w.heap.size]? = some (.cells ROW 33 (0, 0)) → W.heap[vb]? = some (.cells (w2 x).toArray 33 (0, 0)) → ∀ ty dc, (Builtin.copy_ #[24, 24] ty #[.slice (some ⟨w.heap.size, i * 2, none⟩) (l.length + 1 - i) dc, .slice (some ⟨vb, 0, none⟩) 1 1]).run Try.prog W = .ok (goInt 1) (W.setRow w.heap.size (wc (l.take i) ++ w2 x ++ ROW.toList.drop (i * 2 + 2)).toArray) := fun W h1 h2 ty dc => by
    have h := run_copy_row2 W 24 24 ty 33 w.heap.size (i * 2) (l.length + 1 - i) dc ⟨vb, 0, none⟩ 1 1 ROW 33 (w2 x) Try.underlying24 size33 h1 1 (Nat.min_eq_left (by omega)) (by rw [w2_len]) (fun j v hj => by rw [Addr.add_lit, Nat.zero_add, blk_cell h2 j]; simpa using hj) (by rw [w2_len, hRs]; omega) (fun v hv => wc_one [x] v (by simpa [wc] using hv))
    rw [hRt] at h
    exact h
  obtain ⟨R1, hR1⟩ : ∃ R1, R1 = (wc (l.take i) ++ w2 x ++ ROW.toList.drop (i * 2 + 2)).toArray := ⟨_, rfl⟩
  rw [← hR1] at hcpA
  have hR1s : R1.size = G * 2 := by
    rw [hR1]
    simp [wc_len, w2_len, hRs]
    omega
  have hR1t : R1.toList.take ((i + 1) * 2) = wc (l.take i) ++ w2 x := by
    rw [hR1, show (i + 1) * 2 = (wc (l.take i) ++ w2 x).length by rw [List.length_append, wc_len, w2_len, List.length_take]; omega]
    exact List.take_left' rfl
  have hcpB : ∀ (W : World), W.heap[w.heap.size]? = some (.cells R1 33 (0, 0)) → W.heap[g]? = some (.cells cur 33 (0, 0)) → ∀ ty dc sc, (Builtin.copy_ #[24, 24] ty #[.slice (some ⟨w.heap.size, (i + 1) * 2, none⟩) (l.length + 1 - (i + 1)) dc, .slice (some ⟨g, i * 2, none⟩) (l.length - i) sc]).run Try.prog W = .ok (goInt ((l.length - i : Nat) : Int)) (W.setRow w.heap.size (wc (l.take i) ++ w2 x ++ wc (l.drop i) ++ R1.toList.drop ((i + 1) * 2 + (wc (l.drop i)).length)).toArray) := fun W h1 h2 ty dc sc => by
    have h := run_copy_row2 W 24 24 ty 33 w.heap.size ((i + 1) * 2) (l.length + 1 - (i + 1)) dc ⟨g, i * 2, none⟩ (l.length - i) sc R1 33 (wc (l.drop i)) Try.underlying24 size33 h1 (l.length - i) (Nat.min_eq_left (by omega)) (by rw [wc_len, List.length_drop]) (fun j v hj => by
      rw [Addr.add_lit, blk_cell h2 _, ← Array.getElem?_toList]
      rw [← wc_drop, List.getElem?_drop, ← htk, List.getElem?_take] at hj
      split at hj
      · exact hj
      · cases hj) (by rw [wc_len, List.length_drop, hR1s]; omega) (wc_one _)
    rw [hR1t] at h
    exact h
  obtain ⟨R2, hR2⟩ : ∃ R2, R2 = (wc (l.take i) ++ w2 x ++ wc (l.drop i) ++ R1.toList.drop ((i + 1) * 2 + (wc (l.drop i)).length)).toArray := ⟨_, rfl⟩
  rw [← hR2] at hcpB
  have hR2s : R2.size = G * 2 := by
    rw [hR2]
    simp [wc_len, w2_len, hR1s]
    omega
  have hR2t : R2.toList.take ((l.length + 1) * 2) = wc (ins l i x) := by
    rw [hR2, wc_ins, ← List.append_assoc, show (l.length + 1) * 2 = (wc (l.take i) ++ w2 x ++ wc (l.drop i)).length by simp [wc_len, w2_len]; omega]
    exact List.take_left' rfl
  have hGi : ¬ (G = i) := by omega
  have hGim : ¬ (G = i + 1) := by omega
  have hci : ¬ (c = i) := by omega
  have hw1 : IntKind.i64.wrap ((i : Int) + 1) = (i : Int) + 1 := by rw [IntKind.wrap_i64]; unfold LIM at hlim; omega
  have hb1 : (0 : Int) ≤ (i : Int) + 1 := by omega
  have hin : i ≤ l.length := by omega
  have htn : ((i : Int) + 1).toNat = i + 1 := by omega
  have hb3 : (i : Int) ≤ (l.length : Int) := by omega
  have hn63 : l.length + 1 ≤ 9223372036854775807 := by unfold LIM at hlim; omega
  obtain ⟨W1, hW1⟩ : ∃ W1, W1 = w.drew.alloc (.cells ROW 33) := ⟨_, rfl⟩
  rw [← hW1] at hrz
  have hN1 : W1.heap[w.heap.size]? = some (.cells ROW 33 (0, 0)) := by rw [hW1]; exact heap_alloc_new w.drew _
  have hV1 : W1.heap[vb]? = some (.cells (w2 x).toArray 33 (0, 0)) := by rw [hW1]; exact blk_alloc (blk_drew hv) _
  have hG1 : W1.heap[g]? = some (.cells cur 33 (0, 0)) := by rw [hW1]; exact blk_alloc (blk_drew hg) _
  have hB1 : Below w.heap.size w W1 := by rw [hW1]; exact below_alloc (below_drew (Below.refl _ _)) _
  have hcA := hcpA W1 hN1 hV1
  have hN2 := setRow_heap W1 w.heap.size ROW R1 33 (0, 0) hN1
  have hG2 := (setRow_other W1 w.heap.size g R1 (by omega)).trans hG1
  have hB2 := below_setRow hB1 (Nat.le_refl _) R1
  generalize W1.setRow w.heap.size R1 = W2 at hcA hN2 hG2 hB2
  have hcB := hcpB W2.drew (blk_drew hN2) (blk_drew hG2)
  have hN3 := setRow_heap W2.drew w.heap.size R1 R2 33 (0, 0) (blk_drew hN2)
  have hB3 := below_setRow (below_drew hB2) (Nat.le_refl _) R2
  generalize W2.drew.setRow w.heap.size R2 = W3 at hcB hN3 hB3
  have HN3 := Aside0.mk hN3
  have HB3 := Aside0.mk hB3
  have HR2 := Aside0.mk (And.intro hR2s hR2t)
  clear hkk hik hold hROW hG hR1 hR2 hcpA hcpB hN1 hV1 hG1 hB1 hN2 hG2 hB2 hN3 hB3 hW1 hRt hR1t hR2t hR1s hR2s hRs hcs hvs htk hg hv
  have mixed : Try.prog.follows Departure.mixedOrders = true := by kernel_rfl
  go_enter Try.func60, Try.ntmps60
  go_wp2_with (first
    | (at_builtin; refine Lib.wpList_append_run _ rfl _ _ _ _ rfl _ _ rfl rfl _ _ (hrz _) ?_)
    | (at_builtin; refine wpList_copy_runI _ rfl _ _ 24 24 rfl _ _ rfl rfl (hcA _ _) ?_))
  go_region_law_o (refine step_copy_runI rfl _ _ 24 24 rfl (.slice (some ⟨w.heap.size, (i + 1) * 2, none⟩) (l.length + 1 - (i + 1)) (G - (i + 1))) (.slice (some ⟨g, i * 2, none⟩) (l.length - i) (c - i)) (by simp [Act.eval, Act.put]) (by simp [Act.eval, Act.put]) (hcB 3 (G - (i + 1)) (c - i)) ?_)
  go_wp2
  go_ret
  exact ⟨G, rfl, ⟨by rw [wc_len, ins_len _ _ _ hin], .inr ⟨w.heap.size, G, R2, rfl, Nat.le_refl _, HN3.out, hGn, hG63, HR2.out.1, HR2.out.2⟩⟩, HB3.out⟩

open Go.Lib in
set_option maxHeartbeats 8000000 in
set_option maxRecDepth 100000 in
theorem insert_shift (g c i vb : Nat) (l : List S33) (x : S33) (w : World) (cur : Array Value) (hi : i < l.length) (hnc : l.length + 1 ≤ c) (hc63 : c ≤ 9223372036854775807) (hne : vb ≠ g)
    (hg : w.heap[g]? = some (.cells cur 33 (0, 0))) (hcur : cur.size = c * 2) (htk : cur.toList.take (l.length * 2) = wc l) (hv : w.heap[vb]? = some (.cells (w2 x).toArray 33 (0, 0))) :
    Calls Try.prog 60 #[.slice (some ⟨g, 0, none⟩) l.length c, .int .i64 i, .slice (some ⟨vb, 0, none⟩) 1 1] w fun e w' =>
      e = .returned (.slice (some ⟨g, 0, none⟩) (l.length + 1) c) ∧ (∃ cur2 : Array Value, w'.heap[g]? = some (.cells cur2 33 (0, 0)) ∧ cur2.size = c * 2 ∧ cur2.toList.take ((l.length + 1) * 2) = wc (ins l i x)) ∧ KeepBut w w' g none ∧ Below 0 w w' := by
  have hz2 : ¬ ((i : Int) = (l.length : Int)) := by omega
  have hov : ∀ lb cb, (callFunc 64 #[.slice (some ⟨vb, 0, none⟩) 1 1, .slice (some ⟨g, (i + 1) * 2, none⟩) lb cb]).run Try.prog w = .ok (.value (.bool false)) w := fun lb cb => by
    rw [run_callFunc_extern Try.func64 (by kernel_rfl) (by kernel_rfl) (by kernel_rfl) (e := Extern.SlicesOverlaps.overlaps #[24, 24] #[4]) (by kernel_rfl),
      Lib.run_overlaps_apart w 24 4 33 Try.underlying24 2 Try.sizeOf33 ⟨vb, 0, none⟩ ⟨g, (i + 1) * 2, none⟩ 1 1 lb cb hne 33 33 2 cur.size (by simp [World.shape?, hv, w2]) (by simp [World.shape?, hg]) (by omega) (blk_frozen hv 0) (blk_frozen hv 2)]
    rfl
  have hlt2 : (wc l).length = l.length * 2 := wc_len l
  have hcp1 : ∀ ty dc sc, (Builtin.copy_ #[24, 24] ty #[.slice (some ⟨g, (i + 1) * 2, none⟩) (l.length + 1 - (i + 1)) dc, .slice (some ⟨g, i * 2, none⟩) (l.length + 1 - i) sc]).run Try.prog w.drew = .ok (goInt ((l.length - i : Nat) : Int)) (w.drew.setRow g (cur.toList.take ((i + 1) * 2) ++ wc (l.drop i) ++ cur.toList.drop ((i + 1) * 2 + (wc (l.drop i)).length)).toArray) := fun ty dc sc =>
    run_copy_row2 w.drew 24 24 ty 33 g ((i + 1) * 2) (l.length + 1 - (i + 1)) dc ⟨g, i * 2, none⟩ (l.length + 1 - i) sc cur 33 (wc (l.drop i)) Try.underlying24 size33 (blk_drew hg) (l.length - i) ((Nat.min_eq_right (by omega)).trans (by omega)) (by rw [wc_len, List.length_drop]) (fun j v hj => by
      rw [Addr.add_lit, blk_cell (blk_drew hg) _, ← Array.getElem?_toList]
      rw [← wc_drop, List.getElem?_drop, ← htk, List.getElem?_take] at hj
      split at hj
      · exact hj
      · cases hj) (by rw [wc_len, List.length_drop, hcur]; omega) (wc_one _)
  obtain ⟨R1, hR1⟩ : ∃ R1, R1 = (cur.toList.take ((i + 1) * 2) ++ wc (l.drop i) ++ cur.toList.drop ((i + 1) * 2 + (wc (l.drop i)).length)).toArray := ⟨_, rfl⟩
  rw [← hR1] at hcp1
  have hR1s : R1.size = c * 2 := by
    rw [hR1]
    simp [wc_len, hcur]
    omega
  have hR1t : R1.toList.take (i * 2) = wc (l.take i) := by
    rw [hR1]
    simp only [List.append_assoc]
    rw [List.take_append_of_le_length (by rw [List.length_take, Array.length_toList, hcur]; omega), List.take_take, Nat.min_eq_left (by omega), ← wc_take, ← htk, List.take_take, Nat.min_eq_left (by omega)]
  have hR1d : (R1.toList.drop (i * 2 + 2)).take ((l.length - i) * 2) = wc (l.drop i) := by
    rw [hR1]
    simp only [List.append_assoc]
    rw [show i * 2 + 2 = (cur.toList.take ((i + 1) * 2)).length by rw [List.length_take, Array.length_toList, hcur]; omega, List.drop_left' rfl, show (l.length - i) * 2 = (wc (l.drop i)).length by rw [wc_len, List.length_drop]]
    exact List.take_left' rfl
  have hN2 := setRow_heap w.drew g cur R1 33 (0, 0) (blk_drew hg)
  have hV2 := (setRow_other w.drew g vb R1 hne).trans (blk_drew hv)
  have hK2 : KeepBut w (w.drew.setRow g R1) g none := ⟨by simp [World.setRow], fun k hk hkg _ => setRow_other w.drew g k R1 hkg⟩
  have hZ2 : Below 0 w (w.drew.setRow g R1) := below_setRow ((Below.refl 0 w).drew) (Nat.zero_le _) R1
  generalize w.drew.setRow g R1 = W2 at hcp1 hN2 hV2 hK2 hZ2
  have hcp2 : ∀ ty dc, (Builtin.copy_ #[24, 24] ty #[.slice (some ⟨g, i * 2, none⟩) (l.length + 1 - i) dc, .slice (some ⟨vb, 0, none⟩) 1 1]).run Try.prog W2 = .ok (goInt 1) (W2.setRow g (wc (l.take i) ++ w2 x ++ R1.toList.drop (i * 2 + 2)).toArray) := fun ty dc => by
    have h := run_copy_row2 W2 24 24 ty 33 g (i * 2) (l.length + 1 - i) dc ⟨vb, 0, none⟩ 1 1 R1 33 (w2 x) Try.underlying24 size33 hN2 1 (Nat.min_eq_left (by omega)) (by rw [w2_len]) (fun j v hj => by rw [Addr.add_lit, Nat.zero_add, blk_cell hV2 j]; simpa using hj) (by rw [w2_len, hR1s]; omega) (fun v hv => wc_one [x] v (by simpa [wc] using hv))
    rw [hR1t] at h
    exact h
  obtain ⟨R2, hR2⟩ : ∃ R2, R2 = (wc (l.take i) ++ w2 x ++ R1.toList.drop (i * 2 + 2)).toArray := ⟨_, rfl⟩
  rw [← hR2] at hcp2
  have hR2s : R2.size = c * 2 := by
    rw [hR2]
    simp [wc_len, w2_len, hR1s]
    omega
  have hR2t : R2.toList.take ((l.length + 1) * 2) = wc (ins l i x) := by
    rw [hR2, wc_ins, ← List.append_assoc, show (l.length + 1) * 2 = (wc (l.take i) ++ w2 x).length + (l.length - i) * 2 by rw [List.length_append, wc_len, w2_len, List.length_take]; omega]
    show List.take _ (wc (l.take i) ++ w2 x ++ R1.toList.drop (i * 2 + 2)) = _
    rw [List.take_length_add_append, hR1d]
  have hN3 := setRow_heap W2 g R1 R2 33 (0, 0) hN2
  have hK3 : KeepBut w (W2.setRow g R2) g none := ⟨by have := hK2.1; simpa [World.setRow] using this, fun k hk hkg hr => (setRow_other W2 g k R2 hkg).trans (hK2.2 k hk hkg hr)⟩
  have hZ3 : Below 0 w (W2.setRow g R2) := below_setRow hZ2 (Nat.zero_le _) R2
  generalize W2.setRow g R2 = W3 at hcp2 hN3 hK3 hZ3
  have HF := Aside0.mk (And.intro hN3 (And.intro hR2s (And.intro hR2t (And.intro hK3 hZ3))))
  have hb2 : ¬ (c = i + 1) := by omega
  have hb4 : ¬ (c = i) := by omega
  have hw1 : IntKind.i64.wrap ((i : Int) + 1) = (i : Int) + 1 := by rw [IntKind.wrap_i64]; omega
  have hb1 : (0 : Int) ≤ (i : Int) + 1 := by omega
  have hin : i ≤ l.length := by omega
  have htn : ((i : Int) + 1).toNat = i + 1 := by omega
  have hb3 : (i : Int) ≤ (l.length : Int) + 1 := by omega
  have hb5 : ¬ ((c : Int) < (l.length : Int) + 1) := by omega
  clear hN2 hV2 hK2 hN3 hK3 hZ2 hZ3 hR1 hR2 hR1s hR2s hR1t hR1d hR2t hg hv htk hcur hlt2
  have mixed : Try.prog.follows Departure.mixedOrders = true := by kernel_rfl
  go_enter Try.func60, Try.ntmps60
  go_wp2_with (simp only [hov])
  go_region_law_o (refine step_copy_runI rfl _ _ 24 24 rfl (.slice (some ⟨g, (i + 1) * 2, none⟩) (l.length + 1 - (i + 1)) (c - (i + 1))) (.slice (some ⟨g, i * 2, none⟩) (l.length + 1 - i) (c - i)) (by simp [Act.eval, Act.put]) (by simp [Act.eval, Act.put]) (hcp1 3 (c - (i + 1)) (c - i)) ?_)
  go_wp2_with (at_builtin; refine wpList_copy_runI _ rfl _ _ 24 24 rfl _ _ rfl rfl (hcp2 _ _) ?_)
  go_ret
  exact ⟨rfl, ⟨R2, HF.out.1, HF.out.2.1, HF.out.2.2.1⟩, HF.out.2.2.2⟩

theorem ins_end (l : List S33) (x : S33) : ins l l.length x = l ++ [x] := by simp [ins]
set_option maxHeartbeats 8000000 in
set_option maxRecDepth 100000 in
theorem insert_end (base : Nat) (v : Value) (l : List S33) (x : S33) (w : World) (hlim : l.length ≤ LIM) (hbase : base ≤ w.heap.size) (h : w.ownsRow base 33 2 v l.length (wc l)) :
    Calls Try.prog 60 #[v, .int .i64 l.length, .slice (some ⟨w.heap.size, 0, none⟩) 1 1] (w.alloc (.cells (w2 x).toArray 33)) fun e w' => ∃ v', e = .returned v' ∧ w'.ownsRow base 33 2 v' (l.length + 1) (wc (l ++ [x])) ∧ w.grownBy w' v.ownBlock := by
  have HN := Aside0.mk (N33_of_own h)
  have HL := Aside0.mk hlim
  have HB := Aside0.mk hbase
  obtain ⟨A, c, rfl⟩ := Kd.N_slice HN.out
  have hnc : l.length ≤ c := (Kd.N_reads' HN.out).2.1
  have hlm : l.length ≤ 9223372036854775807 := by unfold LIM at hlim; omega
  clear h hlim hbase
  have hb4 : c = l.length ∨ ¬ (c = l.length) := by omega
  have mixed : Try.prog.follows Departure.mixedOrders = true := by kernel_rfl
  have hr0 : (0 : Int) ≤ (l.length : Int) := by omega
  go_enter Try.func60, Try.ntmps60
  rcases hb4 with hb4 | hb4
  all_goals
    go_wp2_with ((with_reducible refine gate_builtin (b := .append) (xs := #[.tmp 23, .tmp 24]) rfl ?_); at_builtin; refine Kd.N_append k33 (w0 := w) base rfl (.tmp 23) (.tmp 24) 24 33 _ 16 rfl Try.underlying24 info33 rfl (by decide) (by decide) (.slice A l.length c) l x (w2 x) (fun k => base ≤ k) (fun _ => False) rfl rfl (k33_mkF _ _ x) (fun _ hk => hk.elim) (fun k hk => Nat.le_trans HB.out hk) HN.out (Below.refl _ _) HB.out (by have h9 := HL.out; unfold LIM at h9; omega) ?_; intro v1 w1 hN1 hB1 hG1 hat; have H1 := Aside0.mk (And.intro hN1 hG1); clear hN1 hB1 hG1 hat)
    go_ret
    exact ⟨_, rfl, by have := own_of_N33 H1.out.1; rwa [List.length_append] at this, H1.out.2⟩

theorem insert_walk (base i : Nat) (v : Value) (l : List S33) (x : S33) (w : World) (hi : i ≤ l.length) (hlim : l.length ≤ LIM) (hbase : base ≤ w.heap.size) (h : w.ownsRow base 33 2 v l.length (wc l)) :
    Calls Try.prog 60 #[v, .int .i64 i, .slice (some ⟨w.heap.size, 0, none⟩) 1 1] (w.alloc (.cells (w2 x).toArray 33)) fun e w' => ∃ v', e = .returned v' ∧ w'.ownsRow base 33 2 v' (ins l i x).length (wc (ins l i x)) ∧ Below 0 w w' ∧ w.heap.size ≤ w'.heap.size ∧ ∀ k, k < w.heap.size → some k ≠ v.ownBlock → w'.heap[k]? = w.heap[k]? := by
  rw [ins_len _ _ _ hi]
  rcases Nat.lt_or_ge i l.length with hlt | hge
  · obtain ⟨h1, h2⟩ := h
    rcases h2 with ⟨_, h2⟩ | ⟨g, c, cur, rfl, hg, hh, hn, hc, hs, ht⟩
    · omega
    · have hgl := blk_lt hh
      have hh2 : (w.alloc (.cells (w2 x).toArray 33)).heap[g]? = some (.cells cur 33 (0, 0)) := blk_alloc hh _
      have hv2 : (w.alloc (.cells (w2 x).toArray 33)).heap[w.heap.size]? = some (.cells (w2 x).toArray 33 (0, 0)) := heap_alloc_new w _
      rcases Nat.lt_or_ge c (l.length + 1) with hr | hr
      · refine (insert_grow g c i w.heap.size l x _ cur hlt hn hr hlim hh2 hs ht hv2).mono ?_
        rintro e w' ⟨G, rfl, ho, hb⟩
        have hsz : (w.alloc (.cells (w2 x).toArray 33)).heap.size = w.heap.size + 1 := by simp
        refine ⟨_, rfl, own_weaken ho (by omega), ((Below.refl 0 w).alloc (Nat.zero_le _) _).trans (hb.mono (Nat.zero_le _)), by have := hb.size; omega, fun k hk _ => ?_⟩
        exact (hb.block k (by omega)).trans (Below.heap_alloc w _ k hk)
      · refine (insert_shift g c i w.heap.size l x _ cur hlt hr hc (by omega) hh2 hs ht hv2).mono ?_
        rintro e w' ⟨rfl, ⟨cur2, hc2, hs2, ht2⟩, hk2, hz2⟩
        refine ⟨_, rfl, ⟨by rw [wc_len, ins_len _ _ _ hi], .inr ⟨g, c, cur2, rfl, hg, hc2, hr, hc, hs2, ht2⟩⟩, ((Below.refl 0 w).alloc (Nat.zero_le _) _).trans hz2, by have := hk2.1; simp at this; omega, fun k hk hne => ?_⟩
        exact (hk2.2 k (by simp; omega) (fun e => hne (by rw [e]; rfl)) (by simp)).trans (Below.heap_alloc w _ k hk)
  · obtain rfl : i = l.length := by omega
    refine (insert_end base v l x w hlim hbase h).mono ?_
    rintro e w' ⟨v', rfl, ho, hg⟩
    exact ⟨v', rfl, by rw [ins_end]; exact ho, ⟨hg.os, hg.tape, hg.output, hg.size, fun k hk => absurd hk (Nat.not_lt_zero _)⟩, hg.size, fun k hk hne => hg.block k hk hne⟩
end Go.Proofs.Ytfojpobblebigaa.P
namespace Go.Proofs.Ytfojpobblebigaa.P
open Go.RowKit Go.Proofs.YtfojpobblebigaaW.PrintWords Go.Proofs.YtfojpobblebigaaW.PrintLast Go.Proofs.YtfojpobblebigaaW.PrintMore
attribute [local go_sem] max2_int min2_int max_two min_two max_three min_three max_four min_four   -- for this text's walks alone
set_option linter.unusedVariables false
set_option linter.unusedSimpArgs false

theorem eqA30 (d : Nat) (w : World) (x0 y0 : Int) (x1 y1 : Int) (x2 y2 : Int) : (Op.equalIn (d + 2) 30 (.agg #[.int .i64 x0, .int .i64 x1, .int .i64 x2]) (.agg #[.int .i64 y0, .int .i64 y1, .int .i64 y2])).run Try.prog w = .ok (x0 == y0 && (x1 == y1 && (x2 == y2))) w := by
 refine eqA_of Try.underlying30 (by kernel_rfl) ?_
 refine eqf_cons (by rfl) (by go_simp; rfl) (by go_simp; rfl) (by go_simp) ?_
 refine eqf_cons (by rfl) (by go_simp; rfl) (by go_simp; rfl) (by go_simp) ?_
 exact eqf_last (by rfl) (by go_simp; rfl) (by go_simp; rfl) (by go_simp)
end Go.Proofs.Ytfojpobblebigaa.P
namespace Go.Proofs.Ytfojpobblebigaa.P
open Go.RowKit Go.Proofs.YtfojpobblebigaaW.PrintWords Go.Proofs.YtfojpobblebigaaW.PrintLast Go.Proofs.YtfojpobblebigaaW.PrintMore
attribute [local go_sem] max2_int min2_int max_two min_two max_three min_three max_four min_four   -- for this text's walks alone
set_option linter.unusedVariables false
set_option linter.unusedSimpArgs false

attribute [local go_sem high] eqA30
/-! ### hallmootref13_Seens: function 30 -/
def hallmootref13_Seens.l0 : Nat → List (S30) → List (S30) → Int → Option (Bool)
  | 0, _, _, _ => none
  | k + 1, x0, x1, x5 => if x5 < (x0.length : Int) then (if 0 ≤ x5 then (if x5 < (x1.length : Int) then (if (!(((rd_T30 x0 x5).f0) == ((rd_T30 x1 x5).f0)) || (!(((rd_T30 x0 x5).f1) == ((rd_T30 x1 x5).f1)) || (!(((rd_T30 x0 x5).f2) == ((rd_T30 x1 x5).f2))))) = true then (some false) else (hallmootref13_Seens.l0 k x0 x1 (wrap64 (x5 + 1)))) else (none)) else (none)) else (some true)
def hallmootref13_Seens.f (k : Nat) (l0 : List (S30)) (l1 : List (S30)) : Option (Bool) := if (l0.length : Int) = (l1.length : Int) then (hallmootref13_Seens.l0 k l0 l1 0) else (some false)
theorem hallmootref13_Seens.mono_l : ∀ k, (∀ y0 y1 y2, LeO (hallmootref13_Seens.l0 k y0 y1 y2) (hallmootref13_Seens.l0 (k + 1) y0 y1 y2))
  | 0 => fun _ _ _ r h => by simp [hallmootref13_Seens.l0] at h
  | k + 1 => by
    have ih0 := hallmootref13_Seens.mono_l k
    · intro y0 y1 y2
      unfold hallmootref13_Seens.l0
      repeat' first
      | (with_reducible exact ih0 _ _ _)
      | (with_reducible exact LeO.refl _)
      | (with_reducible exact LeO.none _)
      | (with_reducible refine LeO.ite ?_ ?_)
      | (with_reducible refine LeO.bind ?_ (fun _ => ?_))
      | exact ih0 _ _ _
      | exact LeO.none _
      | refine LeO.ite ?_ ?_
      | refine LeO.bind ?_ (fun _ => ?_)
theorem hallmootref13_Seens.mono : ∀ a0 a1 k, LeO (hallmootref13_Seens.f k a0 a1) (hallmootref13_Seens.f (k + 1) a0 a1) := by
 intro a0 a1 k
 have ih0 := hallmootref13_Seens.mono_l k
 unfold hallmootref13_Seens.f
 repeat' first | (with_reducible exact ih0 _ _ _) | (with_reducible exact LeO.refl _) | (with_reducible exact LeO.none _) | (with_reducible refine LeO.ite ?_ ?_) | (with_reducible refine LeO.bind ?_ (fun _ => ?_)) | exact ih0 _ _ _ | exact LeO.none _ | refine LeO.ite ?_ ?_ | refine LeO.bind ?_ (fun _ => ?_)
set_option maxHeartbeats 8000000 in
set_option maxRecDepth 100000 in
theorem hallmootref13_Seens.calls (k : Nat) (A0 : Option Addr) (c0 : Nat) (l0 : List (S30)) (A1 : Option Addr) (c1 : Nat) (l1 : List (S30)) (r : Bool) (w : World) (hr0 : Kd.C k30 w A0 l0.length l0) (hc0 : l0.length ≤ c0) (hr1 : Kd.C k30 w A1 l1.length l1) (hc1 : l1.length ≤ c1) (h : hallmootref13_Seens.f k l0 l1 = some r) : Calls Try.prog 30 #[.slice A0 l0.length c0, .slice A1 l1.length c1] w fun e w' => e = .returned (.bool r) ∧ Drawn0 w w' := by
 have hu30 := Try.underlying30
 have HR0 := aS hr0
 have HC0 := aS hc0
 clear hr0 hc0
 have HR1 := aS hr1
 have HC1 := aS hc1
 clear hr1 hc1
 have H : (if (l0.length : Int) = (l1.length : Int) then (hallmootref13_Seens.l0 k l0 l1 0) else (some false)) = some r := h
 clear h
 by_cases c3 : (l0.length : Int) = (l1.length : Int)
 {
 rw [if_pos c3] at H
 have c3b0 : ((l0.length : Int) == (l1.length : Int)) = true := beq_iff_eq.mpr c3
 have c3b1 : ((l0.length : Int) != (l1.length : Int)) = false := bne_eq_false_iff_eq.mpr c3
 have c3b2 : (l0.length == l1.length) = true := by first | simpa using c3 | (simp at c3 ⊢; omega)
 clear c3
 have H' := aS H
 clear H
 go_enter Try.func30, Try.ntmps30
 go_wp2
 repeat (go_quiet (fail); try go_wp2)
 go_loopg [5] k (fun kq v5 w' => ∃ (x5_1 : Int), v5 = .int .i64 x5_1 ∧ Aside0 (hallmootref13_Seens.l0 kq l0 l1 x5_1 = some r) ∧ Aside0 (kq ≤ k) ∧ Drawn0 w w')
 case atStart => exact ⟨(0), (by first | rfl | (simp; done) | (simp [*]; done)), H', ⟨Nat.le_refl _⟩, by repeat (first | exact Drawn0.refl _ | apply Drawn0.step)⟩
 case round =>
  clear H'
  try clear c1
  try clear p2
  try clear c3
  try clear c3b0
  try clear c3b1
  try clear c3b2
  obtain ⟨x5_1, rfl, HA, HK1, ⟨m1, rfl⟩⟩ := hrel
  cases gk with
  | zero => exact absurd HA.out (by simp [hallmootref13_Seens.l0])
  | succ k1 => {
  have H := HA.out
  clear HA
  simp only [hallmootref13_Seens.l0] at H
  by_cases c4 : x5_1 < (l0.length : Int)
  {
  rw [if_pos c4] at H
  have c4b0 : decide (x5_1 < (l0.length : Int)) = true := decide_eq_true c4
  clear c4
  by_cases c5 : 0 ≤ x5_1
  {
  rw [if_pos c5] at H
  have c5b0 : decide (0 ≤ x5_1) = true := decide_eq_true c5
  clear c5
  by_cases c6 : x5_1 < (l1.length : Int)
  {
  rw [if_pos c6] at H
  have c6b0 : decide (x5_1 < (l1.length : Int)) = true := decide_eq_true c6
  clear c6
  by_cases c7 : (!(((rd_T30 l0 x5_1).f0) == ((rd_T30 l1 x5_1).f0)) || (!(((rd_T30 l0 x5_1).f1) == ((rd_T30 l1 x5_1).f1)) || (!(((rd_T30 l0 x5_1).f2) == ((rd_T30 l1 x5_1).f2))))) = true
  {
  rw [if_pos c7] at H
  have c7b0 : (!(((rd_T30 l0 x5_1).f0) == ((rd_T30 l1 x5_1).f0)) || (!(((rd_T30 l0 x5_1).f1) == ((rd_T30 l1 x5_1).f1)) || (!(((rd_T30 l0 x5_1).f2) == ((rd_T30 l1 x5_1).f2))))) = true := c7
  clear c7
  obtain rfl := Option.some.inj H
  have p205 : 0 ≤ (x5_1 : Int) := dd
  have q205 : x5_1 < (l0.length : Int) := dd
  obtain ⟨ad205, e205, hx205_0, hx205_1, hx205_2⟩ := at_T30 HR0.out x5_1 p205 q205
  cases e205
  replace p205 := eq_true p205
  replace q205 := eq_true q205
  have p206 : 0 ≤ (x5_1 : Int) := dd
  have q206 : x5_1 < (l1.length : Int) := dd
  obtain ⟨ad206, e206, hx206_0, hx206_1, hx206_2⟩ := at_T30 HR1.out x5_1 p206 q206
  cases e206
  replace p206 := eq_true p206
  replace q206 := eq_true q206
  go_wp2
  repeat (go_quiet (fail); try go_wp2)
  go_ret
  exact ⟨by first | rfl | (simp; done) | (simp [*]; done), by repeat (first | exact Drawn0.refl _ | apply Drawn0.step)⟩ }
  {
  rw [if_neg c7] at H
  have c7b0 : (!(((rd_T30 l0 x5_1).f0) == ((rd_T30 l1 x5_1).f0)) || (!(((rd_T30 l0 x5_1).f1) == ((rd_T30 l1 x5_1).f1)) || (!(((rd_T30 l0 x5_1).f2) == ((rd_T30 l1 x5_1).f2))))) = false := by simpa using c7
  clear c7
  have H' := aS H
  clear H
  have p205 : 0 ≤ (x5_1 : Int) := dd
  have q205 : x5_1 < (l0.length : Int) := dd
  obtain ⟨ad205, e205, hx205_0, hx205_1, hx205_2⟩ := at_T30 HR0.out x5_1 p205 q205
  cases e205
  replace p205 := eq_true p205
  replace q205 := eq_true q205
  have p206 : 0 ≤ (x5_1 : Int) := dd
  have q206 : x5_1 < (l1.length : Int) := dd
  obtain ⟨ad206, e206, hx206_0, hx206_1, hx206_2⟩ := at_T30 HR1.out x5_1 p206 q206
  cases e206
  replace p206 := eq_true p206
  replace q206 := eq_true q206
  go_wp2
  repeat (go_quiet (fail); try go_wp2)
  go_roundg k1
  case measure => have := HK1.out; omega
  case rel => exact ⟨(wrap64 (x5_1 + 1)), (by first | rfl | (simp; done) | (simp [*]; done)), H', ⟨by have := HK1.out; omega⟩, by repeat (first | exact Drawn0.refl _ | apply Drawn0.step)⟩ } }
  {
  rw [if_neg c6] at H
  exact absurd H (by simp) } }
  {
  rw [if_neg c5] at H
  exact absurd H (by simp) } }
  {
  rw [if_neg c4] at H
  have c4b0 : decide (x5_1 < (l0.length : Int)) = false := decide_eq_false c4
  clear c4
  obtain rfl := Option.some.inj H
  go_wp2
  repeat (go_quiet (fail); try go_wp2)
  go_ret
  exact ⟨by first | rfl | (simp; done) | (simp [*]; done), by repeat (first | exact Drawn0.refl _ | apply Drawn0.step)⟩ } } }
 {
 rw [if_neg c3] at H
 have c3b0 : ((l0.length : Int) == (l1.length : Int)) = false := beq_eq_false_iff_ne.mpr c3
 have c3b1 : ((l0.length : Int) != (l1.length : Int)) = true := bne_iff_ne.mpr c3
 have c3b2 : (l0.length == l1.length) = false := by first | simpa using c3 | (simp at c3 ⊢; omega)
 obtain rfl := Option.some.inj H
 go_enter Try.func30, Try.ntmps30
 go_wp2
 repeat (go_quiet (fail); try go_wp2)
 go_ret
 exact ⟨by first | rfl | (simp; done) | (simp [*]; done), by repeat (first | exact Drawn0.refl _ | apply Drawn0.step)⟩ }

end Go.Proofs.Ytfojpobblebigaa.P
namespace Go.Proofs.Ytfojpobblebigaa.P
open Go.RowKit Go.Proofs.YtfojpobblebigaaW.PrintWords Go.Proofs.YtfojpobblebigaaW.PrintLast Go.Proofs.YtfojpobblebigaaW.PrintMore
attribute [local go_sem] max2_int min2_int max_two min_two max_three min_three max_four min_four   -- for this text's walks alone
set_option linter.unusedVariables false
set_option linter.unusedSimpArgs false

theorem eqA33 (d : Nat) (w : World) (x0 y0 : Int) (x1 y1 : Int) : (Op.equalIn (d + 2) 33 (.agg #[.int .i64 x0, .int .i64 x1]) (.agg #[.int .i64 y0, .int .i64 y1])).run Try.prog w = .ok (x0 == y0 && (x1 == y1)) w := by
 refine eqA_of Try.underlying33 (by kernel_rfl) ?_
 refine eqf_cons (by rfl) (by go_simp; rfl) (by go_simp; rfl) (by go_simp) ?_
 exact eqf_last (by rfl) (by go_simp; rfl) (by go_simp; rfl) (by go_simp)
end Go.Proofs.Ytfojpobblebigaa.P
namespace Go.Proofs.Ytfojpobblebigaa.P
open Go.RowKit Go.Proofs.YtfojpobblebigaaW.PrintWords Go.Proofs.YtfojpobblebigaaW.PrintLast Go.Proofs.YtfojpobblebigaaW.PrintMore
attribute [local go_sem] max2_int min2_int max_two min_two max_three min_three max_four min_four   -- for this text's walks alone
set_option linter.unusedVariables false
set_option linter.unusedSimpArgs false

attribute [local go_sem high] eqA33
/-! ### hallmootref13_Writes: function 31 -/
def hallmootref13_Writes.l0 : Nat → List (S33) → List (S33) → Int → Option (Bool)
  | 0, _, _, _ => none
  | k + 1, x0, x1, x5 => if x5 < (x0.length : Int) then (if 0 ≤ x5 then (if x5 < (x1.length : Int) then (if (!(((rd_T33 x0 x5).f0) == ((rd_T33 x1 x5).f0)) || (!(((rd_T33 x0 x5).f1) == ((rd_T33 x1 x5).f1)))) = true then (some false) else (hallmootref13_Writes.l0 k x0 x1 (wrap64 (x5 + 1)))) else (none)) else (none)) else (some true)
def hallmootref13_Writes.f (k : Nat) (l0 : List (S33)) (l1 : List (S33)) : Option (Bool) := if (l0.length : Int) = (l1.length : Int) then (hallmootref13_Writes.l0 k l0 l1 0) else (some false)
theorem hallmootref13_Writes.mono_l : ∀ k, (∀ y0 y1 y2, LeO (hallmootref13_Writes.l0 k y0 y1 y2) (hallmootref13_Writes.l0 (k + 1) y0 y1 y2))
  | 0 => fun _ _ _ r h => by simp [hallmootref13_Writes.l0] at h
  | k + 1 => by
    have ih0 := hallmootref13_Writes.mono_l k
    · intro y0 y1 y2
      unfold hallmootref13_Writes.l0
      repeat' first
      | (with_reducible exact ih0 _ _ _)
      | (with_reducible exact LeO.refl _)
      | (with_reducible exact LeO.none _)
      | (with_reducible refine LeO.ite ?_ ?_)
      | (with_reducible refine LeO.bind ?_ (fun _ => ?_))
      | exact ih0 _ _ _
      | exact LeO.none _
      | refine LeO.ite ?_ ?_
      | refine LeO.bind ?_ (fun _ => ?_)
theorem hallmootref13_Writes.mono : ∀ a0 a1 k, LeO (hallmootref13_Writes.f k a0 a1) (hallmootref13_Writes.f (k + 1) a0 a1) := by
 intro a0 a1 k
 have ih0 := hallmootref13_Writes.mono_l k
 unfold hallmootref13_Writes.f
 repeat' first | (with_reducible exact ih0 _ _ _) | (with_reducible exact LeO.refl _) | (with_reducible exact LeO.none _) | (with_reducible refine LeO.ite ?_ ?_) | (with_reducible refine LeO.bind ?_ (fun _ => ?_)) | exact ih0 _ _ _ | exact LeO.none _ | refine LeO.ite ?_ ?_ | refine LeO.bind ?_ (fun _ => ?_)
set_option maxHeartbeats 8000000 in
set_option maxRecDepth 100000 in
theorem hallmootref13_Writes.calls (k : Nat) (A0 : Option Addr) (c0 : Nat) (l0 : List (S33)) (A1 : Option Addr) (c1 : Nat) (l1 : List (S33)) (r : Bool) (w : World) (hr0 : Kd.C k33 w A0 l0.length l0) (hc0 : l0.length ≤ c0) (hr1 : Kd.C k33 w A1 l1.length l1) (hc1 : l1.length ≤ c1) (h : hallmootref13_Writes.f k l0 l1 = some r) : Calls Try.prog 31 #[.slice A0 l0.length c0, .slice A1 l1.length c1] w fun e w' => e = .returned (.bool r) ∧ Drawn0 w w' := by
 have hu33 := Try.underlying33
 have HR0 := aS hr0
 have HC0 := aS hc0
 clear hr0 hc0
 have HR1 := aS hr1
 have HC1 := aS hc1
 clear hr1 hc1
 have H : (if (l0.length : Int) = (l1.length : Int) then (hallmootref13_Writes.l0 k l0 l1 0) else (some false)) = some r := h
 clear h
 by_cases c3 : (l0.length : Int) = (l1.length : Int)
 {
 rw [if_pos c3] at H
 have c3b0 : ((l0.length : Int) == (l1.length : Int)) = true := beq_iff_eq.mpr c3
 have c3b1 : ((l0.length : Int) != (l1.length : Int)) = false := bne_eq_false_iff_eq.mpr c3
 have c3b2 : (l0.length == l1.length) = true := by first | simpa using c3 | (simp at c3 ⊢; omega)
 clear c3
 have H' := aS H
 clear H
 go_enter Try.func31, Try.ntmps31
 go_wp2
 repeat (go_quiet (fail); try go_wp2)
 go_loopg [5] k (fun kq v5 w' => ∃ (x5_1 : Int), v5 = .int .i64 x5_1 ∧ Aside0 (hallmootref13_Writes.l0 kq l0 l1 x5_1 = some r) ∧ Aside0 (kq ≤ k) ∧ Drawn0 w w')
 case atStart => exact ⟨(0), (by first | rfl | (simp; done) | (simp [*]; done)), H', ⟨Nat.le_refl _⟩, by repeat (first | exact Drawn0.refl _ | apply Drawn0.step)⟩
 case round =>
  clear H'
  try clear c1
  try clear p2
  try clear c3
  try clear c3b0
  try clear c3b1
  try clear c3b2
  obtain ⟨x5_1, rfl, HA, HK1, ⟨m1, rfl⟩⟩ := hrel
  cases gk with
  | zero => exact absurd HA.out (by simp [hallmootref13_Writes.l0])
  | succ k1 => {
  have H := HA.out
  clear HA
  simp only [hallmootref13_Writes.l0] at H
  by_cases c4 : x5_1 < (l0.length : Int)
  {
  rw [if_pos c4] at H
  have c4b0 : decide (x5_1 < (l0.length : Int)) = true := decide_eq_true c4
  clear c4
  by_cases c5 : 0 ≤ x5_1
  {
  rw [if_pos c5] at H
  have c5b0 : decide (0 ≤ x5_1) = true := decide_eq_true c5
  clear c5
  by_cases c6 : x5_1 < (l1.length : Int)
  {
  rw [if_pos c6] at H
  have c6b0 : decide (x5_1 < (l1.length : Int)) = true := decide_eq_true c6
  clear c6
  by_cases c7 : (!(((rd_T33 l0 x5_1).f0) == ((rd_T33 l1 x5_1).f0)) || (!(((rd_T33 l0 x5_1).f1) == ((rd_T33 l1 x5_1).f1)))) = true
  {
  rw [if_pos c7] at H
  have c7b0 : (!(((rd_T33 l0 x5_1).f0) == ((rd_T33 l1 x5_1).f0)) || (!(((rd_T33 l0 x5_1).f1) == ((rd_T33 l1 x5_1).f1)))) = true := c7
  clear c7
  obtain rfl := Option.some.inj H
  have p207 : 0 ≤ (x5_1 : Int) := dd
  have q207 : x5_1 < (l0.length : Int) := dd
  obtain ⟨ad207, e207, hx207_0, hx207_1⟩ := at_T33 HR0.out x5_1 p207 q207
  cases e207
  replace p207 := eq_true p207
  replace q207 := eq_true q207
  have p208 : 0 ≤ (x5_1 : Int) := dd
  have q208 : x5_1 < (l1.length : Int) := dd
  obtain ⟨ad208, e208, hx208_0, hx208_1⟩ := at_T33 HR1.out x5_1 p208 q208
  cases e208
  replace p208 := eq_true p208
  replace q208 := eq_true q208
  go_wp2
  repeat (go_quiet (fail); try go_wp2)
  go_ret
  exact ⟨by first | rfl | (simp; done) | (simp [*]; done), by repeat (first | exact Drawn0.refl _ | apply Drawn0.step)⟩ }
  {
  rw [if_neg c7] at H
  have c7b0 : (!(((rd_T33 l0 x5_1).f0) == ((rd_T33 l1 x5_1).f0)) || (!(((rd_T33 l0 x5_1).f1) == ((rd_T33 l1 x5_1).f1)))) = false := by simpa using c7
  clear c7
  have H' := aS H
  clear H
  have p207 : 0 ≤ (x5_1 : Int) := dd
  have q207 : x5_1 < (l0.length : Int) := dd
  obtain ⟨ad207, e207, hx207_0, hx207_1⟩ := at_T33 HR0.out x5_1 p207 q207
  cases e207
  replace p207 := eq_true p207
  replace q207 := eq_true q207
  have p208 : 0 ≤ (x5_1 : Int) := dd
  have q208 : x5_1 < (l1.length : Int) := dd
  obtain ⟨ad208, e208, hx208_0, hx208_1⟩ := at_T33 HR1.out x5_1 p208 q208
  cases e208
  replace p208 := eq_true p208
  replace q208 := eq_true q208
  go_wp2
  repeat (go_quiet (fail); try go_wp2)
  go_roundg k1
  case measure => have := HK1.out; omega
  case rel => exact ⟨(wrap64 (x5_1 + 1)), (by first | rfl | (simp; done) | (simp [*]; done)), H', ⟨by have := HK1.out; omega⟩, by repeat (first | exact Drawn0.refl _ | apply Drawn0.step)⟩ } }
  {
  rw [if_neg c6] at H
  exact absurd H (by simp) } }
  {
  rw [if_neg c5] at H
  exact absurd H (by simp) } }
  {
  rw [if_neg c4] at H
  have c4b0 : decide (x5_1 < (l0.length : Int)) = false := decide_eq_false c4
  clear c4
  obtain rfl := Option.some.inj H
  go_wp2
  repeat (go_quiet (fail); try go_wp2)
  go_ret
  exact ⟨by first | rfl | (simp; done) | (simp [*]; done), by repeat (first | exact Drawn0.refl _ | apply Drawn0.step)⟩ } } }
 {
 rw [if_neg c3] at H
 have c3b0 : ((l0.length : Int) == (l1.length : Int)) = false := beq_eq_false_iff_ne.mpr c3
 have c3b1 : ((l0.length : Int) != (l1.length : Int)) = true := bne_iff_ne.mpr c3
 have c3b2 : (l0.length == l1.length) = false := by first | simpa using c3 | (simp at c3 ⊢; omega)
 obtain rfl := Option.some.inj H
 go_enter Try.func31, Try.ntmps31
 go_wp2
 repeat (go_quiet (fail); try go_wp2)
 go_ret
 exact ⟨by first | rfl | (simp; done) | (simp [*]; done), by repeat (first | exact Drawn0.refl _ | apply Drawn0.step)⟩ }

end Go.Proofs.Ytfojpobblebigaa.P
