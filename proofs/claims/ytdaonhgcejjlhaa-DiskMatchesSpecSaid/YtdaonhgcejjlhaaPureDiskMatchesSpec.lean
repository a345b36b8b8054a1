/- The plain statement of DiskMatchesSpec: package disk and its reference answer alike. -/
import Derived.Test.YtdaonhgcejjlhaaPx26
import Derived.Test.YtdaonhgcejjlhaaPx14
import Derived.Test.YtdaonhgcejjlhaaYM2
import Derived.OpenShut
namespace Go.Proofs.Ytdaonhgcejjlhaa.Pure
open Go.OpenShut Go.RowKit Go.Proofs.Ytdaonhgcejjlhaa.P Go.Proofs.YtdaonhgcejjlhaaW.PrintWords Go.Proofs.YtdaonhgcejjlhaaW.PrintLast Go.Proofs.YtdaonhgcejjlhaaW.PrintMore
set_option linter.unusedVariables false
theorem san60 : hallmootlaw22_sanity.f 60 = some true := by kernel_rfl
theorem san_ge {k : Nat} (hk : 60 ≤ k) : hallmootlaw22_sanity.f k = some true := at_rounds (g := fun k => hallmootlaw22_sanity.f k) (fun k => hallmootlaw22_sanity.mono k) hk san60
theorem san_ev : Ev (fun k => hallmootlaw22_sanity.f k) true := by
  obtain ⟨n, hn⟩ : ∃ n : Nat, 60 ≤ n := ⟨60, Nat.le_refl _⟩
  exact ⟨n, fun k hk => san_ge (by omega)⟩
theorem read_eq (s : List ByteArray) (w : List S46) (a : Int) : ∃ r, disk_Read.f s w a = some r ∧ hallmootref22_Read.f s w a = some r := by
  unfold disk_Read.f hallmootref22_Read.f
  rw [dHas]
  simp only [Option.bind_some, decide_eq_true_eq]
  by_cases h1 : a < 0
  · rw [if_neg (by omega), if_pos h1]; exact ⟨_, rfl, rfl⟩
  · by_cases h2 : a < (s.length : Int)
    · rw [if_pos (by omega), if_pos (by omega), if_pos h2, if_neg h1, if_neg (by omega)]; exact ⟨_, rfl, rfl⟩
    · rw [if_neg (by omega), if_neg h1, if_pos (by omega)]; exact ⟨_, rfl, rfl⟩
theorem write_some (s : List ByteArray) (w : List S46) (a : Int) (b : ByteArray) (hs : s.length ≤ 600) (hw : w.length ≤ 60) : ∃ r1 r2 r3, dWrite.f s w a b = some (r1, r2, r3) ∧ rWrite.f s w a b = some (r1, r2, r3) ∧ r1.length ≤ 600 ∧ r2.length ≤ 61 := by
  show ∃ r1 r2 r3, writeV s w a b = some (r1, r2, r3) ∧ writeV s w a b = some (r1, r2, r3) ∧ _
  unfold writeV
  by_cases h1 : 0 ≤ a ∧ a < (s.length : Int)
  · rw [if_pos h1]
    by_cases h2 : b.size = 32
    · rw [if_pos h2, if_pos ⟨by omega, by omega⟩]
      exact ⟨_, _, _, rfl, rfl, by simpa using hs, by simp; omega⟩
    · rw [if_neg h2]
      exact ⟨_, _, _, rfl, rfl, hs, by omega⟩
  · rw [if_neg h1]
    exact ⟨_, _, _, rfl, rfl, hs, by omega⟩
open hallmootlaw22_DiskMatchesSpec in
theorem j1_ev (a : Int) (b : ByteArray) (cuts : List Int) (right : Bool) (s : List ByteArray) (w : List S46) (hs : s.length ≤ 600) (hw : w.length ≤ 60)
    (hr : right = true → s.length ≤ 512 ∧ (∀ x ∈ s, x.size = 32) ∧ ∀ x ∈ w, 0 ≤ x.f0 ∧ x.f0 < (s.length : Int) ∧ x.f1.size = 32) : Ev (fun k => j1 k a b cuts true right false s w) true := by
  cases right with
  | false =>
    refine Ev.step (f := fun _ => some true) (fun k => ?_) (Ev.now _)
    rw [j1, if_neg (by simp), if_neg (by simp)]
  | true =>
    obtain ⟨q1, q2, q3⟩ := hr rfl
    obtain ⟨r, e1, e2⟩ := read_eq s w a
    obtain ⟨x1, x2, x3, e3, e4, hx1, hx2⟩ := write_some s w a b hs hw
    have e5 : disk_Sync.f s w = some (s, []) := by unfold disk_Sync.f cloneS.f; rw [if_pos (by omega)]; rfl
    have e6 : hallmootref22_Sync.f s w = some (s, []) := by
      unfold hallmootref22_Sync.f
      rw [Option.bind_some, if_pos (by simp; omega)]
      rfl
    have hok : crashOk s w := ⟨by omega, by omega, q2, q3⟩
    have e7 : dCrash.f s w cuts = some (crashV s w cuts, []) := by unfold dCrash.f; rw [if_pos hok]
    have e8 : rCrash.f s w cuts = some (crashV s w cuts, []) := e7
    have hlen : (crashV s w cuts).length ≤ 600 := by
      unfold crashV
      rw [crS_len, (undoS_len _ _ _ _).1]
      exact hs
    refine Ev.step (f := fun k => (hallmootref22_Same.f k x1 x2 x1 x2).bind fun t330 => if t330 = true then ((hallmootref22_Same.f k s [] s []).bind fun t343 => (if t343 = true then ((hallmootref22_Same.f k (crashV s w cuts) [] (crashV s w cuts) []).bind fun t356 => (some t356)) else none)) else none) (fun k => ?_) ?_
    · rw [j1, if_neg (by simp), if_pos rfl, e1, e2, e3, e4, e5, e6, e7, e8]
      simp only [Option.bind_some]
      rw [if_pos trivial, if_pos trivial, if_pos trivial, if_pos trivial]
    · refine Ev.bind (same_self x1 x2 (by omega) (by omega)) ?_
      simp only [if_true]
      refine Ev.bind (same_self s [] (by omega) (by simp)) ?_
      simp only [if_true]
      refine Ev.bind (same_self (crashV s w cuts) [] (by omega) (by simp)) ?_
      exact Ev.now _
open hallmootlaw22_DiskMatchesSpec in
theorem j0_skip (a : Int) (b : ByteArray) (cuts : List Int) (s : List ByteArray) (w : List S46) (s' : List ByteArray) (w' : List S46) : Ev (fun k => j0 k a b cuts true true s w s' w') true := by
  refine Ev.step (f := fun _ => some true) (fun k => ?_) (Ev.now _)
  rw [j0, if_pos rfl]
open hallmootlaw22_DiskMatchesSpec in
theorem j0_ev (a : Int) (b : ByteArray) (cuts : List Int) (s : List ByteArray) (w : List S46) (s' : List ByteArray) (w' : List S46) (hs : s.length ≤ 600) (hw : w.length ≤ 60) (hs' : s'.length ≤ 600) (hw' : w'.length ≤ 60) : Ev (fun k => j0 k a b cuts true false s w s' w') true := by
  obtain ⟨r, n1, n2, n3, n4⟩ := new_ev a
  obtain ⟨g, r1, r2, r3⟩ := right_ev s w hw
  refine Ev.step (f := fun k => (hallmootref22_New.f k a).bind fun bt297 => ((hallmootref22_Right.f k s w).bind fun t305 => (if (g != t305) = true then (j1 k a b cuts true t305 true s w) else ((disk_Same.f k s w s' w').bind fun t307 => ((hallmootref22_Same.f k s w s' w').bind fun t308 => (if (t307 != t308) = true then (j1 k a b cuts true t305 true s w) else ((hallmootref22_Same.f k r.1 r.2.1 bt297.1 bt297.2.1).bind fun t309 => (if t309 = true then (j1 k a b cuts true t305 (r.2.2 != bt297.2.2) s w) else (j1 k a b cuts true t305 true s w))))))))) (fun k => ?_) ?_
  · rw [j0, if_neg (by simp), n1, r1]
    simp only [Option.bind_some]
  · refine Ev.bind n2 (Ev.bind r2 ?_)
    simp only [bne_self_eq_false, Bool.false_eq_true, if_false]
    refine Ev.bind (same_prog s w s' w' (by omega) (by omega)) (Ev.bind (same_ref s w s' w' (by omega) (by omega)) ?_)
    simp only [bne_self_eq_false, Bool.false_eq_true, if_false]
    refine Ev.bind (same_self r.1 r.2.1 (by omega) (by rw [n4]; simp)) ?_
    simp only [if_true]
    exact j1_ev a b cuts g s w hs hw r3
theorem DiskMatchesSpec (s : List ByteArray) (w : List S46) (s' : List ByteArray) (w' : List S46) (a : Int) (b : ByteArray) (cuts : List Int) : Ev (fun k => hallmootlaw22_DiskMatchesSpec.f k s w s' w' a b cuts) true := by
  unfold hallmootlaw22_DiskMatchesSpec.f
  refine Ev.bind san_ev ?_
  obtain ⟨f1, g1, h1⟩ := few_ev s w
  obtain ⟨f2, g2, h2⟩ := few_ev s' w'
  refine Ev.bind g1 ?_
  cases f1 with
  | false => simp only [Bool.false_eq_true, if_false]; exact j0_skip _ _ _ _ _ _ _
  | true =>
    simp only [if_true]
    refine Ev.bind g2 ?_
    cases f2 with
    | false => simp only [Bool.false_eq_true, if_false]; exact j0_skip _ _ _ _ _ _ _
    | true =>
      simp only [if_true]
      obtain ⟨p1, p2⟩ := h1 rfl
      obtain ⟨p3, p4⟩ := h2 rfl
      by_cases e : (b.size : Int) > 60
      · simp only [if_pos e]; exact j0_skip _ _ _ _ _ _ _
      · simp only [if_neg e]
        by_cases e2 : (cuts.length : Int) > 80
        · rw [decide_eq_true e2]; exact j0_skip _ _ _ _ _ _ _
        · rw [decide_eq_false e2]; exact j0_ev _ _ _ _ _ _ _ p1 p2 p3 p4
end Go.Proofs.Ytdaonhgcejjlhaa.Pure
