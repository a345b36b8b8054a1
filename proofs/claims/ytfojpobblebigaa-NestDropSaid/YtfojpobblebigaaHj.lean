/- nest.fold, its closure, nest.End. -/
import Derived.Test.YtfojpobblebigaaHi
namespace Go.Proofs.Ytfojpobblebigaa.P
open Go.RowKit Go.Proofs.YtfojpobblebigaaW.PrintWords Go.Proofs.YtfojpobblebigaaW.PrintLast Go.Proofs.YtfojpobblebigaaW.PrintMore
set_option linter.unusedVariables false
set_option linter.unusedSimpArgs false

/-- An element of a row of levels: its cells, and what they lead to. -/
theorem F62_at {W : World} {ok : Nat → Prop} {A : Option Addr} {l : List S62} (h : Kd.F k62 W ok A l.length l) (i : Nat) (hi : i < l.length) :
    ∃ ad A0 c0 A1 c1 A2 c2, A = some ad ∧ W.cell? (ad.add (i * 3)) = some (.slice A0 (l.getD i z62).f0.length c0) ∧ W.cell? ⟨(ad.add (i * 3)).block, (ad.add (i * 3)).off + 1, none⟩ = some (.slice A1 (l.getD i z62).f1.length c1) ∧ W.cell? ⟨(ad.add (i * 3)).block, (ad.add (i * 3)).off + 2, none⟩ = some (.slice A2 (l.getD i z62).f2.length c2) ∧
      (l.getD i z62).f0.length ≤ c0 ∧ Kd.F k30 W ok A0 (l.getD i z62).f0.length (l.getD i z62).f0 ∧ (l.getD i z62).f1.length ≤ c1 ∧ Kd.F k33 W ok A1 (l.getD i z62).f1.length (l.getD i z62).f1 ∧ (l.getD i z62).f2.length ≤ c2 ∧ Kd.F k50 W ok A2 (l.getD i z62).f2.length (l.getD i z62).f2 := by
  obtain ⟨ad, c, e, _, hK, hc0, _⟩ := Kd.F_get h z62 (i : Int) (by omega) (by omega)
  rw [Int.toNat_natCast] at hK hc0
  have hc : ∀ j u, c[j]? = some u → W.cell? (ad.add (i * 3 + j)) = some u := hc0
  obtain ⟨A0, c0, A1, c1, A2, c2, rfl, r⟩ := k62_openF hK
  exact ⟨ad, A0, c0, A1, c1, A2, c2, e, hc 0 _ rfl, by rw [← add_field _ _ 1 (by omega)]; exact hc 1 _ rfl, by rw [← add_field _ _ 2 (by omega)]; exact hc 2 _ rfl, r⟩

set_option maxHeartbeats 8000000 in
set_option maxRecDepth 100000 in
theorem foldAC (W : World) (g off : Nat) (ok : Nat → Prop) (x : S62) (cs : Array Value) (bT bL bN : Nat) (A : Option Addr) (c : Nat) (l : List S62) (h : Lvl W g off ok x cs)
    (t0 : W.cell? ⟨bT, 0, none⟩ = some (.func (.func 38) #[] #[])) (t1 : W.cell? ⟨bT, 1, none⟩ = some (.func (.func 40) #[] #[])) (t2 : W.cell? ⟨bT, 2, none⟩ = some (.func (.func 51) #[] #[])) (q0 : W.cell? ⟨bL, 0, none⟩ = some (.slice A l.length c)) (q1 : W.cell? ⟨bN, 0, none⟩ = some (.int .i64 ((l.length - 1 : Nat) : Int)))
    (hF : Kd.F k62 W (fun k => ok k ∧ k ≠ g) A l.length l) (hne : 0 < l.length) (hx : x.f0.length + x.f1.length + x.f2.length ≤ tot l) (hlim : 2 * tot l < LIM) (hok : ∀ k, W.heap.size ≤ k → ok k) :
    Calls Try.prog 61 (#[.pointer (some ⟨g, off, none⟩)] ++ #[.pointer (some ⟨bT, 0, none⟩), .pointer (some ⟨bL, 0, none⟩), .pointer (some ⟨bN, 0, none⟩)]) W fun e w' => e = .returned (.tuple #[]) ∧ LvlTo W g off ok cs (joinAM x (l.getD (l.length - 1) z62)) w' := by
  obtain ⟨ad, A0, c0, A1, c1, A2, c2, rfl, e0, e1, e2, l0, f0, l1, f1, l2, f2⟩ := F62_at hF (l.length - 1) (by omega)
  have hm := tot_mem (last_mem hne)
  have hl63 : l.length ≤ 9223372036854775807 := (Kd.F_now hF).2.1
  generalize l.getD (l.length - 1) z62 = z at *
  have hB : Below W.heap.size W W.drew := below_drew (Below.refl _ _)
  have HC := Aside0.mk (joinA W.drew g off ok x z cs A0 A1 A2 c0 c1 c2 (lvl_below h hB) (Kd.F_below f0 hB) (Kd.F_below f1 hB) (Kd.F_below f2 hB) (by omega) (by omega) (by omega) (fun k hk => hok k hk))
  have HB := Aside0.mk hB
  obtain ⟨n1, hn1⟩ : ∃ n1, n1 = l.length - 1 := ⟨_, rfl⟩
  rw [← hn1] at q1 e0 e1 e2
  have hi0 : (0 : Int) ≤ (n1 : Int) := by omega
  have hi1 : (n1 : Int) < (l.length : Int) := by omega
  have eg53 := enters_of Try.func53 (by kernel_rfl) rfl
  clear h hF f0 f1 f2 hB hn1
  show Calls Try.prog 61 #[.pointer (some ⟨g, off, none⟩), .pointer (some ⟨bT, 0, none⟩), .pointer (some ⟨bL, 0, none⟩), .pointer (some ⟨bN, 0, none⟩)] W _
  go_enter Try.func61, Try.ntmps61
  go_wp2_with fail
  go_region_with (go_at_call 53; refine HC.out.mono ?_; rintro e w' ⟨rfl, hq⟩)
  all_goals go_wp2_with fail
  all_goals exact bodyPost_end (results_none rfl _ _ _) rfl ⟨rfl, by first | exact LvlTo.of_below HB.out hq | exact LvlTo.of_below HB.out (by assumption)⟩

set_option maxHeartbeats 8000000 in
set_option maxRecDepth 100000 in
theorem foldRC (W : World) (g off : Nat) (ok : Nat → Prop) (x : S62) (cs : Array Value) (bT bL bN : Nat) (A : Option Addr) (c : Nat) (l : List S62) (h : Lvl W g off ok x cs)
    (t0 : W.cell? ⟨bT, 0, none⟩ = some (.func (.func 38) #[] #[])) (t1 : W.cell? ⟨bT, 1, none⟩ = some .nilFunc) (t2 : W.cell? ⟨bT, 2, none⟩ = some .nilFunc) (q0 : W.cell? ⟨bL, 0, none⟩ = some (.slice A l.length c)) (q1 : W.cell? ⟨bN, 0, none⟩ = some (.int .i64 ((l.length - 1 : Nat) : Int)))
    (hF : Kd.F k62 W (fun k => ok k ∧ k ≠ g) A l.length l) (hne : 0 < l.length) (hx : x.f0.length + x.f1.length + x.f2.length ≤ tot l) (hlim : 2 * tot l < LIM) (hok : ∀ k, W.heap.size ≤ k → ok k) :
    Calls Try.prog 61 (#[.pointer (some ⟨g, off, none⟩)] ++ #[.pointer (some ⟨bT, 0, none⟩), .pointer (some ⟨bL, 0, none⟩), .pointer (some ⟨bN, 0, none⟩)]) W fun e w' => e = .returned (.tuple #[]) ∧ LvlTo W g off ok cs (joinRM x (l.getD (l.length - 1) z62)) w' := by
  obtain ⟨ad, A0, c0, A1, c1, A2, c2, rfl, e0, e1, e2, l0, f0, l1, f1, l2, f2⟩ := F62_at hF (l.length - 1) (by omega)
  have hm := tot_mem (last_mem hne)
  have hl63 : l.length ≤ 9223372036854775807 := (Kd.F_now hF).2.1
  generalize l.getD (l.length - 1) z62 = z at *
  have hB : Below W.heap.size W W.drew := below_drew (Below.refl _ _)
  have HC := Aside0.mk (joinR W.drew g off ok x z cs A0 A1 A2 c0 c1 c2 (lvl_below h hB) (Kd.F_below f0 hB) (Kd.F_below f1 hB) (Kd.F_below f2 hB) (by omega) (by omega) (by omega) (fun k hk => hok k hk))
  have HB := Aside0.mk hB
  obtain ⟨n1, hn1⟩ : ∃ n1, n1 = l.length - 1 := ⟨_, rfl⟩
  rw [← hn1] at q1 e0 e1 e2
  have hi0 : (0 : Int) ≤ (n1 : Int) := by omega
  have hi1 : (n1 : Int) < (l.length : Int) := by omega
  have eg53 := enters_of Try.func53 (by kernel_rfl) rfl
  clear h hF f0 f1 f2 hB hn1
  show Calls Try.prog 61 #[.pointer (some ⟨g, off, none⟩), .pointer (some ⟨bT, 0, none⟩), .pointer (some ⟨bL, 0, none⟩), .pointer (some ⟨bN, 0, none⟩)] W _
  go_enter Try.func61, Try.ntmps61
  go_wp2_with fail
  go_region_with (go_at_call 53; refine HC.out.mono ?_; rintro e w' ⟨rfl, hq⟩)
  all_goals go_wp2_with fail
  all_goals exact bodyPost_end (results_none rfl _ _ _) rfl ⟨rfl, by first | exact LvlTo.of_below HB.out hq | exact LvlTo.of_below HB.out (by assumption)⟩
end Go.Proofs.Ytfojpobblebigaa.P
