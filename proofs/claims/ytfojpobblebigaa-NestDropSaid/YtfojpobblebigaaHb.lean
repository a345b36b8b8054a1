/- Contracts, proved by hand: slices.IndexFunc at []api.Seen and []api.Write, slices.ContainsFunc at []api.Seen, at every function value; the closures of package nest that they are handed. -/
import Derived.Test.YtfojpobblebigaaHa
import Derived.WalkSpells
import Derived.Outline
import Derived.Shelf.Abstract
namespace Go.Proofs.Ytfojpobblebigaa.P
open Go.RowKit Go.Proofs.YtfojpobblebigaaW.PrintWords Go.Proofs.YtfojpobblebigaaW.PrintLast Go.Proofs.YtfojpobblebigaaW.PrintMore
set_option linter.unusedVariables false
set_option linter.unusedSimpArgs false

/-- The first place at which p holds, or -1. -/
def idxI {α : Type} (p : α → Bool) (zs : List α) : Int := if zs.any p then (zs.findIdx p : Int) else -1
theorem idxI_hit {α : Type} (p : α → Bool) (zs : List α) (d : α) (k : Nat) (hk : k < zs.length) (h : p (zs.getD k d) = true) (hb : ∀ j, j < k → p (zs.getD j d) = false) : idxI p zs = (k : Int) := by
  have hg : zs.getD k d = zs[k] := by simp [List.getD_eq_getElem?_getD, hk]
  rw [hg] at h
  have h1 : zs.any p = true := by rw [List.any_eq_true]; exact ⟨zs[k], List.getElem_mem _, h⟩
  unfold idxI
  rw [if_pos h1]
  have : zs.findIdx p = k := by
    rw [List.findIdx_eq hk]
    refine ⟨h, fun j hj => ?_⟩
    have := hb j hj
    have hjl : j < zs.length := by omega
    simpa [List.getD_eq_getElem?_getD, hjl] using this
  rw [this]
theorem idxI_miss {α : Type} (p : α → Bool) (zs : List α) (d : α) (hb : ∀ j, j < zs.length → p (zs.getD j d) = false) : idxI p zs = -1 := by
  have h1 : ¬ (zs.any p = true) := by
    rw [List.any_eq_true]
    rintro ⟨x, hx, hp⟩
    obtain ⟨j, hj, rfl⟩ := List.getElem_of_mem hx
    have := hb j hj
    rw [List.getD_eq_getElem?_getD, List.getElem?_eq_getElem hj] at this
    simp at this
    rw [hp] at this
    cases this
  unfold idxI
  rw [if_neg h1]
theorem idxI_any {α : Type} (p : α → Bool) (zs : List α) : decide (0 ≤ idxI p zs) = zs.any p := by
  unfold idxI
  cases h : zs.any p <;> simp

set_option maxHeartbeats 4000000 in
set_option maxRecDepth 100000 in
theorem idxR (p : S30 → Bool) (g : Nat) (lb : Array Value) (eg : ∀ args w, (callFunc g args).run Try.prog w = .ok (.enter g args) w) (A0 : Option Addr) (n c0 : Nat) (zs : List S30) (w : World)
    (hr : Kd.C k30 w A0 n zs)
    (hp : ∀ (W : World) (x : S30), Below w.heap.size w W → Calls Try.prog g (#[.agg #[.int .i64 x.f0, .int .i64 x.f1, .int .i64 x.f2]] ++ lb) W fun e w' => e = .returned (.bool (p x)) ∧ Below w.heap.size w w') :
    Calls Try.prog 63 #[.slice A0 n c0, .func (.func g) #[] lb] w fun e w' => e = .returned (.int .i64 (idxI p zs)) ∧ Below w.heap.size w w' := by
  have HR := Aside0.mk hr
  have HP := Aside0.mk hp
  clear hr hp
  have hlen : n = zs.length := HR.out.1.symm
  subst hlen
  have hmax : zs.length ≤ 9223372036854775807 := HR.out.2.1
  have hu := Try.underlying30
  go_enter Try.func63, Try.ntmps63
  go_wp2
  go_loopg [5, 8] zs.length (fun gg _ s8 wr => ∃ kk : Nat, kk ≤ zs.length ∧ zs.length - kk ≤ gg ∧ s8 = .int .i64 kk ∧ Aside0 (Below w.heap.size w wr) ∧ Aside0 (∀ j, j < kk → p (zs.getD j z30) = false))
  case atStart => exact ⟨0, Nat.zero_le _, by omega, rfl, ⟨Below.refl _ w⟩, ⟨fun j hj => absurd hj (Nat.not_lt_zero _)⟩⟩
  case round =>
    obtain ⟨kk, hkk, hg, rfl, BW, AF⟩ := hrel
    by_cases hlt : kk < zs.length
    · have hltz : (kk : Int) < (zs.length : Int) := by omega
      obtain ⟨ad, rfl, hc0, hc1, hc2⟩ := at_T30 (Kd.C_below HR.out (w1 := wr) ⟨BW.out.os, BW.out.tape, BW.out.output, BW.out.size, BW.out.block⟩) (kk : Int) (by omega) hltz
      rw [show rd_T30 zs (kk : Int) = zs.getD kk z30 from rfl, Int.toNat_natCast] at hc0 hc1 hc2
      have hcall := HP.out wr (zs.getD kk z30) BW.out
      generalize hy : zs.getD kk z30 = y at hc0 hc1 hc2 hc2 hcall
      have B := Aside0.mk hy
      clear hy
      cases hq : p y with
      | true =>
        rw [hq] at hcall
        have HQ := Aside0.mk hq
        clear hq
        go_wp2_with (go_at_fn g; refine hcall.mono ?_; rintro e w' ⟨rfl, hb'⟩)
        go_ret
        refine ⟨?_, hb'⟩
        rw [idxI_hit p zs z30 kk hlt (by rw [B.out]; exact HQ.out) AF.out]
        rfl
      | false =>
        rw [hq] at hcall
        have HQ := Aside0.mk hq
        clear hq
        go_wp2_with (go_at_fn g; refine hcall.mono ?_; rintro e w' ⟨rfl, hb'⟩)
        go_roundg (zs.length - (kk + 1))
        case measure => omega
        case rel =>
          refine ⟨kk + 1, by omega, by omega, by go_num, ⟨hb'⟩, ⟨fun j hj => ?_⟩⟩
          by_cases e : j = kk
          · subst e
            rw [B.out]; exact HQ.out
          · exact AF.out j (by omega)
    · have hltz : ¬ (kk : Int) < (zs.length : Int) := by omega
      have hk2 : kk = zs.length := by omega
      subst hk2
      go_wp2
      go_ret
      exact ⟨by rw [idxI_miss p zs z30 AF.out]; rfl, BW.out⟩

set_option maxHeartbeats 4000000 in
set_option maxRecDepth 100000 in
theorem idxT (p : S33 → Bool) (g : Nat) (lb : Array Value) (eg : ∀ args w, (callFunc g args).run Try.prog w = .ok (.enter g args) w) (A0 : Option Addr) (n c0 : Nat) (zs : List S33) (w : World)
    (hr : Kd.C k33 w A0 n zs)
    (hp : ∀ (W : World) (x : S33), Below w.heap.size w W → Calls Try.prog g (#[.agg #[.int .i64 x.f0, .int .i64 x.f1]] ++ lb) W fun e w' => e = .returned (.bool (p x)) ∧ Below w.heap.size w w') :
    Calls Try.prog 57 #[.slice A0 n c0, .func (.func g) #[] lb] w fun e w' => e = .returned (.int .i64 (idxI p zs)) ∧ Below w.heap.size w w' := by
  have HR := Aside0.mk hr
  have HP := Aside0.mk hp
  clear hr hp
  have hlen : n = zs.length := HR.out.1.symm
  subst hlen
  have hmax : zs.length ≤ 9223372036854775807 := HR.out.2.1
  have hu := Try.underlying33
  go_enter Try.func57, Try.ntmps57
  go_wp2
  go_loopg [5, 8] zs.length (fun gg _ s8 wr => ∃ kk : Nat, kk ≤ zs.length ∧ zs.length - kk ≤ gg ∧ s8 = .int .i64 kk ∧ Aside0 (Below w.heap.size w wr) ∧ Aside0 (∀ j, j < kk → p (zs.getD j z33) = false))
  case atStart => exact ⟨0, Nat.zero_le _, by omega, rfl, ⟨Below.refl _ w⟩, ⟨fun j hj => absurd hj (Nat.not_lt_zero _)⟩⟩
  case round =>
    obtain ⟨kk, hkk, hg, rfl, BW, AF⟩ := hrel
    by_cases hlt : kk < zs.length
    · have hltz : (kk : Int) < (zs.length : Int) := by omega
      obtain ⟨ad, rfl, hc0, hc1⟩ := at_T33 (Kd.C_below HR.out (w1 := wr) ⟨BW.out.os, BW.out.tape, BW.out.output, BW.out.size, BW.out.block⟩) (kk : Int) (by omega) hltz
      rw [show rd_T33 zs (kk : Int) = zs.getD kk z33 from rfl, Int.toNat_natCast] at hc0 hc1
      have hcall := HP.out wr (zs.getD kk z33) BW.out
      generalize hy : zs.getD kk z33 = y at hc0 hc1 hcall
      have B := Aside0.mk hy
      clear hy
      cases hq : p y with
      | true =>
        rw [hq] at hcall
        have HQ := Aside0.mk hq
        clear hq
        go_wp2_with (go_at_fn g; refine hcall.mono ?_; rintro e w' ⟨rfl, hb'⟩)
        go_ret
        refine ⟨?_, hb'⟩
        rw [idxI_hit p zs z33 kk hlt (by rw [B.out]; exact HQ.out) AF.out]
        rfl
      | false =>
        rw [hq] at hcall
        have HQ := Aside0.mk hq
        clear hq
        go_wp2_with (go_at_fn g; refine hcall.mono ?_; rintro e w' ⟨rfl, hb'⟩)
        go_roundg (zs.length - (kk + 1))
        case measure => omega
        case rel =>
          refine ⟨kk + 1, by omega, by omega, by go_num, ⟨hb'⟩, ⟨fun j hj => ?_⟩⟩
          by_cases e : j = kk
          · subst e
            rw [B.out]; exact HQ.out
          · exact AF.out j (by omega)
    · have hltz : ¬ (kk : Int) < (zs.length : Int) := by omega
      have hk2 : kk = zs.length := by omega
      subst hk2
      go_wp2
      go_ret
      exact ⟨by rw [idxI_miss p zs z33 AF.out]; rfl, BW.out⟩

set_option maxHeartbeats 4000000 in
set_option maxRecDepth 100000 in
theorem conR (p : S30 → Bool) (g : Nat) (lb : Array Value) (eg : ∀ args w, (callFunc g args).run Try.prog w = .ok (.enter g args) w) (A0 : Option Addr) (n c0 : Nat) (zs : List S30) (w : World)
    (hr : Kd.C k30 w A0 n zs)
    (hp : ∀ (W : World) (x : S30), Below w.heap.size w W → Calls Try.prog g (#[.agg #[.int .i64 x.f0, .int .i64 x.f1, .int .i64 x.f2]] ++ lb) W fun e w' => e = .returned (.bool (p x)) ∧ Below w.heap.size w w') :
    Calls Try.prog 54 #[.slice A0 n c0, .func (.func g) #[] lb] w fun e w' => e = .returned (.bool (zs.any p)) ∧ Below w.heap.size w w' := by
  have HC := Aside0.mk (idxR p g lb eg A0 n c0 zs w hr hp)
  have HA := Aside0.mk (idxI_any p zs)
  clear hr hp
  generalize hi : idxI p zs = i at HC HA
  generalize zs.any p = b at HA ⊢
  clear hi
  obtain rfl : decide (0 ≤ i) = b := HA.out
  clear HA
  go_enter Try.func54, Try.ntmps54
  go_wp2_with (go_at_call 63; refine HC.out.mono ?_; rintro e w' ⟨rfl, hb'⟩)
  all_goals (go_ret; exact ⟨by first | rfl | simp_all | (simp; omega), hb'⟩)

set_option maxHeartbeats 4000000 in
set_option maxRecDepth 100000 in
theorem eqR (W : World) (x : S30) (b : Nat) (s : Int) (hc : W.cell? ⟨b, 0, none⟩ = some (.int .i64 s)) : Calls Try.prog 55 (#[.agg #[.int .i64 x.f0, .int .i64 x.f1, .int .i64 x.f2]] ++ #[.pointer (some ⟨b, 0, none⟩)]) W fun e w' => e = .returned (.bool (x.f0 == s)) ∧ Below W.heap.size W w' := by
  show Calls Try.prog 55 #[.agg #[.int .i64 x.f0, .int .i64 x.f1, .int .i64 x.f2], .pointer (some ⟨b, 0, none⟩)] W _
  have hlt := World.block_lt_of_cell? W _ hc
  go_enter Try.func55, Try.ntmps55
  go_wp2
  go_ret
  exact ⟨by first | rfl | simp, (Below.refl _ _).alloc (Nat.le_refl _) _⟩
set_option maxHeartbeats 4000000 in
set_option maxRecDepth 100000 in
theorem eqT (W : World) (x : S33) (b : Nat) (s : Int) (hc : W.cell? ⟨b, 0, none⟩ = some (.int .i64 s)) : Calls Try.prog 58 (#[.agg #[.int .i64 x.f0, .int .i64 x.f1]] ++ #[.pointer (some ⟨b, 0, none⟩)]) W fun e w' => e = .returned (.bool (x.f0 == s)) ∧ Below W.heap.size W w' := by
  show Calls Try.prog 58 #[.agg #[.int .i64 x.f0, .int .i64 x.f1], .pointer (some ⟨b, 0, none⟩)] W _
  have hlt := World.block_lt_of_cell? W _ hc
  go_enter Try.func58, Try.ntmps58
  go_wp2
  go_ret
  exact ⟨by first | rfl | simp, (Below.refl _ _).alloc (Nat.le_refl _) _⟩
set_option maxHeartbeats 4000000 in
set_option maxRecDepth 100000 in
theorem gtT (W : World) (x : S33) (b : Nat) (s : Int) (hc : W.cell? ⟨b, 0, none⟩ = some (.int .i64 s)) : Calls Try.prog 59 (#[.agg #[.int .i64 x.f0, .int .i64 x.f1]] ++ #[.pointer (some ⟨b, 0, none⟩)]) W fun e w' => e = .returned (.bool (decide (s < x.f0))) ∧ Below W.heap.size W w' := by
  show Calls Try.prog 59 #[.agg #[.int .i64 x.f0, .int .i64 x.f1], .pointer (some ⟨b, 0, none⟩)] W _
  have hlt := World.block_lt_of_cell? W _ hc
  go_enter Try.func59, Try.ntmps59
  go_wp2
  go_ret
  exact ⟨by first | rfl | simp, (Below.refl _ _).alloc (Nat.le_refl _) _⟩
end Go.Proofs.Ytfojpobblebigaa.P
