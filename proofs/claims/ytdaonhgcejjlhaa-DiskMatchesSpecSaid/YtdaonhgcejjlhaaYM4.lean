/- Merged: Contracts, proved by hand, of Write in package disk and in the reference: the ways that hand the device back, beside the printed way that makes a new one. | Contracts, proved by hand, of Write in the reference: the ways that hand the device back, beside the printed way that makes a new one. -/
import Derived.Test.YtdaonhgcejjlhaaYM0
import Derived.Test.YtdaonhgcejjlhaaPx11
import Derived.WalkSpells
import Derived.Outline
import Derived.Test.YtdaonhgcejjlhaaPx21
namespace Go.Proofs.Ytdaonhgcejjlhaa.P
open Go.RowKit Go.Proofs.YtdaonhgcejjlhaaW.PrintWords Go.Proofs.YtdaonhgcejjlhaaW.PrintLast Go.Proofs.YtdaonhgcejjlhaaW.PrintMore
set_option linter.unusedVariables false
set_option linter.unusedSimpArgs false

def writeV (l0_0 : List ByteArray) (l0_1 : List S46) (a1 : Int) (a2 : ByteArray) : Option (List ByteArray × List S46 × Int) :=
  if 0 ≤ a1 ∧ a1 < (l0_0.length : Int) then
    (if a2.size = 32 then (if l0_0.length < 8796093022208 ∧ l0_1.length + 1 < 5864062014805 then some (l0_0.set a1.toNat a2, l0_1 ++ [⟨a1, rdOf ByteArray.empty l0_0 a1⟩], 0) else none) else some (l0_0, l0_1, 1))
  else some (l0_0, l0_1, 8)
def dWrite.f := writeV

theorem dHas (l0_0 : List ByteArray) (l0_1 : List S46) (a1 : Int) : disk_has.f l0_0 l0_1 a1 = some (decide (0 ≤ a1 ∧ a1 < (l0_0.length : Int))) := by
  unfold disk_has.f
  by_cases h : 0 ≤ a1
  · rw [if_pos h]; simp [h]
  · rw [if_neg h]; simp [h]
theorem dWriteOk_eq (l0_0 : List ByteArray) (l0_1 : List S46) (a1 : Int) (a2 : ByteArray) (h1 : 0 ≤ a1) (h2 : a1 < (l0_0.length : Int)) (h3 : a2.size = 32) (h4 : l0_0.length < 8796093022208) (h5 : l0_1.length + 1 < 5864062014805) :
    dWriteOk.f l0_0 l0_1 a1 a2 = some (l0_0.set a1.toNat a2, l0_1 ++ [⟨a1, rdOf ByteArray.empty l0_0 a1⟩], 0) := by
  unfold dWriteOk.f
  have h3' : (a2.size : Int) = 32 := by omega
  rw [dHas]
  simp only [Option.bind_some, decide_eq_true_eq]
  rw [if_pos ⟨h1, h2⟩, if_pos h3']
  unfold cloneS.f cloneW.f
  rw [if_pos h4, if_pos (by omega)]
  simp only [Option.bind_some]
  rw [if_pos h1, if_pos h2]
  simp [h5, h2]

set_option maxHeartbeats 4000000 in
set_option maxRecDepth 100000 in
theorem dWrite_no (A0 A1 : Option Addr) (n0 c0 n1 c1 : Nat) (a1 : Int) (a2 : ByteArray) (w : World) (h : ¬ (0 ≤ a1 ∧ a1 < (n0 : Int))) :
    Calls Try.prog 17 #[.agg #[.slice A0 n0 c0, .slice A1 n1 c1], .int .i64 a1, .string a2] w fun e w' => e = .returned (.tuple #[.agg #[.slice A0 n0 c0, .slice A1 n1 c1], .int .i64 8]) ∧ Below w.heap.size w w' := by
  have hu25 := Try.underlying25
  by_cases h0 : 0 ≤ a1
  · have h1 : ¬ a1 < (n0 : Int) := fun h1 => h ⟨h0, h1⟩
    clear h
    go_enter Try.func17, Try.ntmps17
    go_wp2
    refine bodyPost_ret (v := .tuple #[.agg #[.slice A0 n0 c0, .slice A1 n1 c1], .int .i64 8]) (by simp [results, Try.results17, go_sem]) rfl ⟨rfl, ?_⟩
    repeat' (first | exact Below.refl _ _ | (with_reducible refine Below.setCell ?_ ?_ _) | (with_reducible refine Below.alloc ?_ ?_ _))
    all_goals (first | omega | (simp; done) | (simp; omega))
  · clear h
    have h1 : a1 < 0 := by omega
    go_enter Try.func17, Try.ntmps17
    go_wp2
    refine bodyPost_ret (v := .tuple #[.agg #[.slice A0 n0 c0, .slice A1 n1 c1], .int .i64 8]) (by simp [results, Try.results17, go_sem]) rfl ⟨rfl, ?_⟩
    repeat' (first | exact Below.refl _ _ | (with_reducible refine Below.setCell ?_ ?_ _) | (with_reducible refine Below.alloc ?_ ?_ _))
    all_goals (first | omega | (simp; done) | (simp; omega))
set_option maxHeartbeats 4000000 in
set_option maxRecDepth 100000 in
theorem dWrite_len (A0 A1 : Option Addr) (n0 c0 n1 c1 : Nat) (a1 : Int) (a2 : ByteArray) (w : World) (h : 0 ≤ a1) (h1 : a1 < (n0 : Int)) (h2 : ¬ a2.size = 32) :
    Calls Try.prog 17 #[.agg #[.slice A0 n0 c0, .slice A1 n1 c1], .int .i64 a1, .string a2] w fun e w' => e = .returned (.tuple #[.agg #[.slice A0 n0 c0, .slice A1 n1 c1], .int .i64 1]) ∧ Below w.heap.size w w' := by
  have hu25 := Try.underlying25
  have h3 : ((a2.size : Int) != 32) = true := by simp; omega
  have h4 : ((a2.size : Int) == 32) = false := by simp; omega
  clear h2
  go_enter Try.func17, Try.ntmps17
  go_wp2
  refine bodyPost_ret (v := .tuple #[.agg #[.slice A0 n0 c0, .slice A1 n1 c1], .int .i64 1]) (by simp [results, Try.results17, go_sem]) rfl ⟨rfl, ?_⟩
  repeat' (first | exact Below.refl _ _ | (with_reducible refine Below.setCell ?_ ?_ _) | (with_reducible refine Below.alloc ?_ ?_ _))
  all_goals (first | omega | (simp; done) | (simp; omega))

theorem dWrite.calls (P0_0_ : Nat → Prop) (A0_0 : Option Addr) (c0_0 : Nat) (l0_0 : List ByteArray) (P0_1_ : Nat → Prop) (A0_1 : Option Addr) (c0_1 : Nat) (l0_1 : List (S46)) (a1 : Int) (a2 : ByteArray) (r1 : List ByteArray) (r2 : List (S46)) (r3 : Int) (w : World) (hs0_0 : Kd.V Kd.string 9 w w.heap.size (fun k_ => P0_0_ k_) (.slice A0_0 l0_0.length c0_0) l0_0) (hs0_1 : Kd.V k46 46 w w.heap.size (fun k_ => P0_1_ k_) (.slice A0_1 l0_1.length c0_1) l0_1) (h : dWrite.f l0_0 l0_1 a1 a2 = some (r1, r2, r3)) :
    Calls Try.prog 17 #[.agg #[.slice A0_0 l0_0.length c0_0, .slice A0_1 l0_1.length c0_1], .int .i64 a1, .string a2] w fun e w' => ∃ v0_ v1_ : Value, e = .returned (.tuple #[.agg #[v0_, v1_], .int .i64 r3]) ∧ Kd.V Kd.string 9 w' w.heap.size (fun k_ => ((P0_0_ k_ ∨ P0_1_ k_) ∨ w.heap.size ≤ k_)) v0_ r1 ∧ Kd.V k46 46 w' w.heap.size (fun k_ => ((P0_0_ k_ ∨ P0_1_ k_) ∨ w.heap.size ≤ k_)) v1_ r2 ∧ Below w.heap.size w w' := by
  unfold dWrite.f writeV at h
  by_cases h1 : 0 ≤ a1 ∧ a1 < (l0_0.length : Int)
  · rw [if_pos h1] at h
    by_cases h2 : a2.size = 32
    · rw [if_pos h2] at h
      by_cases h3 : l0_0.length < 8796093022208 ∧ l0_1.length + 1 < 5864062014805
      · rw [if_pos h3] at h
        have hok := dWriteOk_eq l0_0 l0_1 a1 a2 h1.1 h1.2 h2 h3.1 h3.2
        rw [h] at hok
        refine (dWriteOk.calls A0_0 c0_0 l0_0 A0_1 c0_1 l0_1 a1 a2 r1 r2 r3 w (Kd.V_reads' hs0_0).2.2 (Kd.V_reads' hs0_0).2.1 (Kd.V_reads' hs0_1).2.2 (Kd.V_reads' hs0_1).2.1 hok).mono ?_
        rintro e w' ⟨v0, v1, rfl, hR0, hR1, hB⟩
        exact ⟨v0, v1, rfl, Kd.V_mono (Kd.R_V (Kd.R_bound hR0)) (fun k hk => .inr hk.2.1), Kd.V_mono (Kd.R_V (Kd.R_bound hR1)) (fun k hk => .inr hk.2.1), hB⟩
      · rw [if_neg h3] at h
        exact absurd h (by simp)
    · rw [if_neg h2] at h
      simp only [Option.some.injEq, Prod.mk.injEq] at h
      obtain ⟨rfl, rfl, rfl⟩ := h
      refine (dWrite_len A0_0 A0_1 l0_0.length c0_0 l0_1.length c0_1 a1 a2 w h1.1 h1.2 h2).mono ?_
      rintro e w' ⟨rfl, hB⟩
      exact ⟨_, _, rfl, Kd.V_mono (Kd.V_below hs0_0 hB) (fun k hk => .inl (.inl hk)), Kd.V_mono (Kd.V_below hs0_1 hB) (fun k hk => .inl (.inr hk)), hB⟩
  · rw [if_neg h1] at h
    simp only [Option.some.injEq, Prod.mk.injEq] at h
    obtain ⟨rfl, rfl, rfl⟩ := h
    refine (dWrite_no A0_0 A0_1 l0_0.length c0_0 l0_1.length c0_1 a1 a2 w h1).mono ?_
    rintro e w' ⟨rfl, hB⟩
    exact ⟨_, _, rfl, Kd.V_mono (Kd.V_below hs0_0 hB) (fun k hk => .inl (.inl hk)), Kd.V_mono (Kd.V_below hs0_1 hB) (fun k hk => .inl (.inr hk)), hB⟩
end Go.Proofs.Ytdaonhgcejjlhaa.P
namespace Go.Proofs.Ytdaonhgcejjlhaa.P
open Go.RowKit Go.Proofs.YtdaonhgcejjlhaaW.PrintWords Go.Proofs.YtdaonhgcejjlhaaW.PrintLast Go.Proofs.YtdaonhgcejjlhaaW.PrintMore
set_option linter.unusedVariables false
set_option linter.unusedSimpArgs false

def rWrite.f := writeV
theorem rWriteOk_eq (k : Nat) (l0_0 : List ByteArray) (l0_1 : List S46) (a1 : Int) (a2 : ByteArray) (h1 : 0 ≤ a1) (h2 : a1 < (l0_0.length : Int)) (h3 : a2.size = 32) (h4 : l0_0.length < 8796093022208) (h5 : l0_1.length + 1 < 5864062014805) :
    rWriteOk.f (k + 1) l0_0 l0_1 a1 a2 = some (l0_0.set a1.toNat a2, l0_1 ++ [⟨a1, rdOf ByteArray.empty l0_0 a1⟩], 0) := by
  have h3' : (a2.size : Int) = 32 := by omega
  unfold rWriteOk.f
  rw [if_neg (by omega)]
  simp only [rWriteOk.j0]
  have : decide (a1 ≥ (l0_0.length : Int)) = false := by simp; omega
  rw [this]
  simp [h3', h1, h2, h4, h5]
  omega

set_option maxHeartbeats 4000000 in
set_option maxRecDepth 100000 in
theorem rWrite_no (A0 A1 : Option Addr) (n0 c0 n1 c1 : Nat) (a1 : Int) (a2 : ByteArray) (w : World) (h : ¬ (0 ≤ a1 ∧ a1 < (n0 : Int))) :
    Calls Try.prog 18 #[.agg #[.slice A0 n0 c0, .slice A1 n1 c1], .int .i64 a1, .string a2] w fun e w' => e = .returned (.tuple #[.agg #[.slice A0 n0 c0, .slice A1 n1 c1], .int .i64 8]) ∧ Below w.heap.size w w' := by
  have hu25 := Try.underlying25
  by_cases h0 : a1 < 0
  · clear h
    go_enter Try.func18, Try.ntmps18
    go_wp2
    refine bodyPost_ret (v := .tuple #[.agg #[.slice A0 n0 c0, .slice A1 n1 c1], .int .i64 8]) (by simp [results, Try.results18, go_sem]) rfl ⟨rfl, ?_⟩
    repeat' (first | exact Below.refl _ _ | (with_reducible refine Below.setCell ?_ ?_ _) | (with_reducible refine Below.alloc ?_ ?_ _))
    all_goals (first | omega | (simp; done) | (simp; omega))
  · have h1 : (n0 : Int) ≤ a1 := by omega
    clear h
    go_enter Try.func18, Try.ntmps18
    go_wp2
    refine bodyPost_ret (v := .tuple #[.agg #[.slice A0 n0 c0, .slice A1 n1 c1], .int .i64 8]) (by simp [results, Try.results18, go_sem]) rfl ⟨rfl, ?_⟩
    repeat' (first | exact Below.refl _ _ | (with_reducible refine Below.setCell ?_ ?_ _) | (with_reducible refine Below.alloc ?_ ?_ _))
    all_goals (first | omega | (simp; done) | (simp; omega))
set_option maxHeartbeats 4000000 in
set_option maxRecDepth 100000 in
theorem rWrite_len (A0 A1 : Option Addr) (n0 c0 n1 c1 : Nat) (a1 : Int) (a2 : ByteArray) (w : World) (h : 0 ≤ a1) (h1 : a1 < (n0 : Int)) (h2 : ¬ a2.size = 32) :
    Calls Try.prog 18 #[.agg #[.slice A0 n0 c0, .slice A1 n1 c1], .int .i64 a1, .string a2] w fun e w' => e = .returned (.tuple #[.agg #[.slice A0 n0 c0, .slice A1 n1 c1], .int .i64 1]) ∧ Below w.heap.size w w' := by
  have hu25 := Try.underlying25
  have h3 : ((a2.size : Int) != 32) = true := by simp; omega
  have h4 : ((a2.size : Int) == 32) = false := by simp; omega
  clear h2
  go_enter Try.func18, Try.ntmps18
  go_wp2
  refine bodyPost_ret (v := .tuple #[.agg #[.slice A0 n0 c0, .slice A1 n1 c1], .int .i64 1]) (by simp [results, Try.results18, go_sem]) rfl ⟨rfl, ?_⟩
  repeat' (first | exact Below.refl _ _ | (with_reducible refine Below.setCell ?_ ?_ _) | (with_reducible refine Below.alloc ?_ ?_ _))
  all_goals (first | omega | (simp; done) | (simp; omega))

theorem rWrite.calls (P0_0_ : Nat → Prop) (A0_0 : Option Addr) (c0_0 : Nat) (l0_0 : List ByteArray) (P0_1_ : Nat → Prop) (A0_1 : Option Addr) (c0_1 : Nat) (l0_1 : List (S46)) (a1 : Int) (a2 : ByteArray) (r1 : List ByteArray) (r2 : List (S46)) (r3 : Int) (w : World) (hs0_0 : Kd.V Kd.string 9 w w.heap.size (fun k_ => P0_0_ k_) (.slice A0_0 l0_0.length c0_0) l0_0) (hs0_1 : Kd.V k46 46 w w.heap.size (fun k_ => P0_1_ k_) (.slice A0_1 l0_1.length c0_1) l0_1) (h : rWrite.f l0_0 l0_1 a1 a2 = some (r1, r2, r3)) :
    Calls Try.prog 18 #[.agg #[.slice A0_0 l0_0.length c0_0, .slice A0_1 l0_1.length c0_1], .int .i64 a1, .string a2] w fun e w' => ∃ v0_ v1_ : Value, e = .returned (.tuple #[.agg #[v0_, v1_], .int .i64 r3]) ∧ Kd.V Kd.string 9 w' w.heap.size (fun k_ => ((P0_0_ k_ ∨ P0_1_ k_) ∨ w.heap.size ≤ k_)) v0_ r1 ∧ Kd.V k46 46 w' w.heap.size (fun k_ => ((P0_0_ k_ ∨ P0_1_ k_) ∨ w.heap.size ≤ k_)) v1_ r2 ∧ Below w.heap.size w w' := by
  unfold rWrite.f writeV at h
  by_cases h1 : 0 ≤ a1 ∧ a1 < (l0_0.length : Int)
  · rw [if_pos h1] at h
    by_cases h2 : a2.size = 32
    · rw [if_pos h2] at h
      by_cases h3 : l0_0.length < 8796093022208 ∧ l0_1.length + 1 < 5864062014805
      · rw [if_pos h3] at h
        have hok := rWriteOk_eq 0 l0_0 l0_1 a1 a2 h1.1 h1.2 h2 h3.1 h3.2
        rw [h] at hok
        refine (rWriteOk.calls 1 A0_0 c0_0 l0_0 A0_1 c0_1 l0_1 a1 a2 r1 r2 r3 w (Kd.V_reads' hs0_0).2.2 (Kd.V_reads' hs0_0).2.1 (Kd.V_reads' hs0_1).2.2 (Kd.V_reads' hs0_1).2.1 hok).mono ?_
        rintro e w' ⟨v0, v1, rfl, hR0, hR1, hB⟩
        exact ⟨v0, v1, rfl, Kd.V_mono (Kd.R_V (Kd.R_bound hR0)) (fun k hk => .inr hk.2.1), Kd.V_mono (Kd.R_V (Kd.R_bound hR1)) (fun k hk => .inr hk.2.1), hB⟩
      · rw [if_neg h3] at h
        exact absurd h (by simp)
    · rw [if_neg h2] at h
      simp only [Option.some.injEq, Prod.mk.injEq] at h
      obtain ⟨rfl, rfl, rfl⟩ := h
      refine (rWrite_len A0_0 A0_1 l0_0.length c0_0 l0_1.length c0_1 a1 a2 w h1.1 h1.2 h2).mono ?_
      rintro e w' ⟨rfl, hB⟩
      exact ⟨_, _, rfl, Kd.V_mono (Kd.V_below hs0_0 hB) (fun k hk => .inl (.inl hk)), Kd.V_mono (Kd.V_below hs0_1 hB) (fun k hk => .inl (.inr hk)), hB⟩
  · rw [if_neg h1] at h
    simp only [Option.some.injEq, Prod.mk.injEq] at h
    obtain ⟨rfl, rfl, rfl⟩ := h
    refine (rWrite_no A0_0 A0_1 l0_0.length c0_0 l0_1.length c0_1 a1 a2 w h1).mono ?_
    rintro e w' ⟨rfl, hB⟩
    exact ⟨_, _, rfl, Kd.V_mono (Kd.V_below hs0_0 hB) (fun k hk => .inl (.inl hk)), Kd.V_mono (Kd.V_below hs0_1 hB) (fun k hk => .inl (.inr hk)), hB⟩

end Go.Proofs.Ytdaonhgcejjlhaa.P
