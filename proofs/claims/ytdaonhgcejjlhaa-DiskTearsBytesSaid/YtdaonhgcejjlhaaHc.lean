/- Contracts, proved by hand: slices.IndexFunc, slices.ContainsFunc at []string and []api.Was, at every function value; disk.Right. -/
import Derived.Test.YtdaonhgcejjlhaaHa
import Derived.WalkSpells
import Derived.Outline
import Derived.Shelf.Abstract
namespace Go.Proofs.Ytdaonhgcejjlhaa.P
open Go.RowKit Go.Proofs.YtdaonhgcejjlhaaW.PrintWords Go.Proofs.YtdaonhgcejjlhaaW.PrintLast Go.Proofs.YtdaonhgcejjlhaaW.PrintMore
set_option linter.unusedVariables false
set_option linter.unusedSimpArgs false

/-- The first place at which p holds, or -1. -/
def idxI {α : Type} (p : α → Bool) (zs : List α) : Int := if zs.any p then (zs.findIdx p : Int) else -1
theorem idxI_hit {α : Type} (p : α → Bool) (zs : List α) (d : α) (k : Nat) (hk : k < zs.length) (h : p (zs.getD k d) = true) (hb : ∀ j, j < k → p (zs.getD j d) = false) : idxI p zs = (k : Int) := by
  have hg : zs.getD k d = zs[k] := by simp [List.getD_eq_getElem?_getD, hk]
  rw [hg] at h
  have h1 : zs.any p = true := by rw [List.any_eq_true]; exact ⟨zs[k], List.getElem_mem _, h⟩
  unfold idxI
  rw [if_pos h1]
  have : zs.findIdx p = k := by
    rw [List.findIdx_eq hk]
    refine ⟨h, fun j hj => ?_⟩
    have := hb j hj
    have hjl : j < zs.length := by omega
    simpa [List.getD_eq_getElem?_getD, hjl] using this
  rw [this]
theorem idxI_miss {α : Type} (p : α → Bool) (zs : List α) (d : α) (hb : ∀ j, j < zs.length → p (zs.getD j d) = false) : idxI p zs = -1 := by
  have h1 : ¬ (zs.any p = true) := by
    rw [List.any_eq_true]
    rintro ⟨x, hx, hp⟩
    obtain ⟨j, hj, rfl⟩ := List.getElem_of_mem hx
    have := hb j hj
    rw [List.getD_eq_getElem?_getD, List.getElem?_eq_getElem hj] at this
    simp at this
    rw [hp] at this
    cases this
  unfold idxI
  rw [if_neg h1]
theorem idxI_any {α : Type} (p : α → Bool) (zs : List α) : decide (0 ≤ idxI p zs) = zs.any p := by
  unfold idxI
  cases h : zs.any p <;> simp

set_option maxHeartbeats 4000000 in
set_option maxRecDepth 100000 in
theorem idxS (p : ByteArray → Bool) (g : Nat) (lb : Array Value) (eg : ∀ args w, (callFunc g args).run Try.prog w = .ok (.enter g args) w) (A0 : Option Addr) (n c0 : Nat) (zs : List ByteArray) (w : World)
    (hr : Kd.C Kd.string w A0 n zs)
    (hp : ∀ (W : World) (x : ByteArray), Below w.heap.size w W → Calls Try.prog g (#[.string x] ++ lb) W fun e w' => e = .returned (.bool (p x)) ∧ Below w.heap.size w w') :
    Calls Try.prog 42 #[.slice A0 n c0, .func (.func g) #[] lb] w fun e w' => e = .returned (.int .i64 (idxI p zs)) ∧ Below w.heap.size w w' := by
  have HR := Aside0.mk hr
  have HP := Aside0.mk hp
  clear hr hp
  have hlen : n = zs.length := HR.out.1.symm
  subst hlen
  have hmax : zs.length ≤ 9223372036854775807 := HR.out.2.1
  go_enter Try.func42, Try.ntmps42
  go_wp2
  go_loopg [5, 8] zs.length (fun gg _ s8 wr => ∃ kk : Nat, kk ≤ zs.length ∧ zs.length - kk ≤ gg ∧ s8 = .int .i64 kk ∧ Aside0 (Below w.heap.size w wr) ∧ Aside0 (∀ j, j < kk → p (zs.getD j ByteArray.empty) = false))
  case atStart => exact ⟨0, Nat.zero_le _, by omega, rfl, ⟨Below.refl _ w⟩, ⟨fun j hj => absurd hj (Nat.not_lt_zero _)⟩⟩
  case round =>
    obtain ⟨kk, hkk, hg, rfl, BW, AF⟩ := hrel
    by_cases hlt : kk < zs.length
    · have hltz : (kk : Int) < (zs.length : Int) := by omega
      obtain ⟨ad, c, rfl, hc1, hK, hcell⟩ := Kd.C_get (Kd.C_below HR.out (w1 := wr) ⟨BW.out.os, BW.out.tape, BW.out.output, BW.out.size, BW.out.block⟩) ByteArray.empty (kk : Int) (by omega) hltz
      obtain rfl : c = [.string (zs.getD kk ByteArray.empty)] := hK
      have hc0 := hcell 0 _ rfl
      have hc0' : wr.cell? (ad.add kk) = some (.string (zs.getD kk ByteArray.empty)) := by
        have e : ((kk : Int).toNat * Kd.string.sz + 0) = kk := by show (kk : Int).toNat * 1 + 0 = kk; simp
        rw [e] at hc0; exact hc0
      clear hc0 hcell hc1
      have hcall := HP.out wr (zs.getD kk ByteArray.empty) BW.out
      generalize hy : zs.getD kk ByteArray.empty = y at hc0' hcall
      have B := Aside0.mk hy
      clear hy
      cases hq : p y with
      | true =>
        rw [hq] at hcall
        have HQ := Aside0.mk hq
        clear hq
        go_wp2_with (go_at_fn g; refine hcall.mono ?_; rintro e w' ⟨rfl, hb'⟩)
        go_ret
        refine ⟨?_, hb'⟩
        rw [idxI_hit p zs ByteArray.empty kk hlt (by rw [B.out]; exact HQ.out) AF.out]
        rfl
      | false =>
        rw [hq] at hcall
        have HQ := Aside0.mk hq
        clear hq
        go_wp2_with (go_at_fn g; refine hcall.mono ?_; rintro e w' ⟨rfl, hb'⟩)
        go_roundg (zs.length - (kk + 1))
        case measure => omega
        case rel =>
          refine ⟨kk + 1, by omega, by omega, by go_num, ⟨hb'⟩, ⟨fun j hj => ?_⟩⟩
          by_cases e : j = kk
          · subst e
            rw [B.out]; exact HQ.out
          · exact AF.out j (by omega)
    · have hltz : ¬ (kk : Int) < (zs.length : Int) := by omega
      have hk2 : kk = zs.length := by omega
      subst hk2
      go_wp2
      go_ret
      exact ⟨by rw [idxI_miss p zs ByteArray.empty AF.out]; rfl, BW.out⟩
set_option maxHeartbeats 4000000 in
set_option maxRecDepth 100000 in
theorem idxW (p : S46 → Bool) (g : Nat) (lb : Array Value) (eg : ∀ args w, (callFunc g args).run Try.prog w = .ok (.enter g args) w) (A0 : Option Addr) (n c0 : Nat) (zs : List S46) (w : World)
    (hr : Kd.C k46 w A0 n zs)
    (hp : ∀ (W : World) (x : S46), Below w.heap.size w W → Calls Try.prog g (#[.agg #[.int .i64 x.f0, .string x.f1]] ++ lb) W fun e w' => e = .returned (.bool (p x)) ∧ Below w.heap.size w w') :
    Calls Try.prog 43 #[.slice A0 n c0, .func (.func g) #[] lb] w fun e w' => e = .returned (.int .i64 (idxI p zs)) ∧ Below w.heap.size w w' := by
  have HR := Aside0.mk hr
  have HP := Aside0.mk hp
  clear hr hp
  have hlen : n = zs.length := HR.out.1.symm
  subst hlen
  have hmax : zs.length ≤ 9223372036854775807 := HR.out.2.1
  have hu46 := Try.underlying46
  go_enter Try.func43, Try.ntmps43
  go_wp2
  go_loopg [5, 8] zs.length (fun gg _ s8 wr => ∃ kk : Nat, kk ≤ zs.length ∧ zs.length - kk ≤ gg ∧ s8 = .int .i64 kk ∧ Aside0 (Below w.heap.size w wr) ∧ Aside0 (∀ j, j < kk → p (zs.getD j z46) = false))
  case atStart => exact ⟨0, Nat.zero_le _, by omega, rfl, ⟨Below.refl _ w⟩, ⟨fun j hj => absurd hj (Nat.not_lt_zero _)⟩⟩
  case round =>
    obtain ⟨kk, hkk, hg, rfl, BW, AF⟩ := hrel
    by_cases hlt : kk < zs.length
    · have hltz : (kk : Int) < (zs.length : Int) := by omega
      obtain ⟨ad, rfl, hc0, hc1⟩ := at_T46 (Kd.C_below HR.out (w1 := wr) ⟨BW.out.os, BW.out.tape, BW.out.output, BW.out.size, BW.out.block⟩) (kk : Int) (by omega) hltz
      rw [show rd_T46 zs (kk : Int) = zs.getD kk z46 from rfl, Int.toNat_natCast] at hc0 hc1
      have hcall := HP.out wr (zs.getD kk z46) BW.out
      generalize hy : zs.getD kk z46 = y at hc0 hc1 hcall
      have B := Aside0.mk hy
      clear hy
      cases hq : p y with
      | true =>
        rw [hq] at hcall
        have HQ := Aside0.mk hq
        clear hq
        go_wp2_with (go_at_fn g; refine hcall.mono ?_; rintro e w' ⟨rfl, hb'⟩)
        go_ret
        refine ⟨?_, hb'⟩
        rw [idxI_hit p zs z46 kk hlt (by rw [B.out]; exact HQ.out) AF.out]
        rfl
      | false =>
        rw [hq] at hcall
        have HQ := Aside0.mk hq
        clear hq
        go_wp2_with (go_at_fn g; refine hcall.mono ?_; rintro e w' ⟨rfl, hb'⟩)
        go_roundg (zs.length - (kk + 1))
        case measure => omega
        case rel =>
          refine ⟨kk + 1, by omega, by omega, by go_num, ⟨hb'⟩, ⟨fun j hj => ?_⟩⟩
          by_cases e : j = kk
          · subst e
            rw [B.out]; exact HQ.out
          · exact AF.out j (by omega)
    · have hltz : ¬ (kk : Int) < (zs.length : Int) := by omega
      have hk2 : kk = zs.length := by omega
      subst hk2
      go_wp2
      go_ret
      exact ⟨by rw [idxI_miss p zs z46 AF.out]; rfl, BW.out⟩

set_option maxHeartbeats 4000000 in
set_option maxRecDepth 100000 in
theorem conS (p : ByteArray → Bool) (g : Nat) (lb : Array Value) (eg : ∀ args w, (callFunc g args).run Try.prog w = .ok (.enter g args) w) (A0 : Option Addr) (n c0 : Nat) (zs : List ByteArray) (w : World)
    (hr : Kd.C Kd.string w A0 n zs)
    (hp : ∀ (W : World) (x : ByteArray), Below w.heap.size w W → Calls Try.prog g (#[.string x] ++ lb) W fun e w' => e = .returned (.bool (p x)) ∧ Below w.heap.size w w') :
    Calls Try.prog 27 #[.slice A0 n c0, .func (.func g) #[] lb] w fun e w' => e = .returned (.bool (zs.any p)) ∧ Below w.heap.size w w' := by
  have HC := Aside0.mk (idxS p g lb eg A0 n c0 zs w hr hp)
  have HA := Aside0.mk (idxI_any p zs)
  clear hr hp
  generalize hi : idxI p zs = i at HC HA
  generalize zs.any p = b at HA ⊢
  clear hi
  obtain rfl : decide (0 ≤ i) = b := HA.out
  clear HA
  go_enter Try.func27, Try.ntmps27
  go_wp2_with (go_at_call 42; refine HC.out.mono ?_; rintro e w' ⟨rfl, hb'⟩)
  all_goals (go_ret; exact ⟨by first | rfl | simp_all | (simp; omega), hb'⟩)

set_option maxHeartbeats 4000000 in
set_option maxRecDepth 100000 in
theorem conW (p : S46 → Bool) (g : Nat) (lb : Array Value) (eg : ∀ args w, (callFunc g args).run Try.prog w = .ok (.enter g args) w) (A0 : Option Addr) (n c0 : Nat) (zs : List S46) (w : World)
    (hr : Kd.C k46 w A0 n zs)
    (hp : ∀ (W : World) (x : S46), Below w.heap.size w W → Calls Try.prog g (#[.agg #[.int .i64 x.f0, .string x.f1]] ++ lb) W fun e w' => e = .returned (.bool (p x)) ∧ Below w.heap.size w w') :
    Calls Try.prog 29 #[.slice A0 n c0, .func (.func g) #[] lb] w fun e w' => e = .returned (.bool (zs.any p)) ∧ Below w.heap.size w w' := by
  have HC := Aside0.mk (idxW p g lb eg A0 n c0 zs w hr hp)
  have HA := Aside0.mk (idxI_any p zs)
  clear hr hp
  generalize hi : idxI p zs = i at HC HA
  generalize zs.any p = b at HA ⊢
  clear hi
  obtain rfl : decide (0 ≤ i) = b := HA.out
  clear HA
  go_enter Try.func29, Try.ntmps29
  go_wp2_with (go_at_call 43; refine HC.out.mono ?_; rintro e w' ⟨rfl, hb'⟩)
  all_goals (go_ret; exact ⟨by first | rfl | simp_all | (simp; omega), hb'⟩)

/-! ### disk.Right: function 12 -/
def badS (x : ByteArray) : Bool := (x.size : Int) != 32
def badW (n : Nat) (x : S46) : Bool := decide (x.f0 < 0) || decide ((n : Int) ≤ x.f0) || ((x.f1.size : Int) != 32)
def dRight.f (l0_0 : List ByteArray) (l0_1 : List S46) : Option Bool :=
  some (if (512 : Int) < (l0_0.length : Int) then false else if l0_0.any badS = true then false else !l0_1.any (badW l0_0.length))
theorem badS_calls (W : World) (x : ByteArray) : Calls Try.prog 28 (#[.string x] ++ #[]) W fun e w' => e = .returned (.bool (badS x)) ∧ Below W.heap.size W w' := by
  show Calls Try.prog 28 #[.string x] W _
  go_enter Try.func28, Try.ntmps28
  go_wp2
  go_ret
  exact ⟨rfl, Below.refl _ _⟩
set_option maxHeartbeats 4000000 in
set_option maxRecDepth 100000 in
theorem badW_calls (W : World) (x : S46) (b : Nat) (A0 : Option Addr) (n0 c0 : Nat) (hc : W.cell? ⟨b, 0, none⟩ = some (.slice A0 n0 c0)) : Calls Try.prog 30 (#[.agg #[.int .i64 x.f0, .string x.f1]] ++ #[.pointer (some ⟨b, 0, none⟩)]) W fun e w' => e = .returned (.bool (badW n0 x)) ∧ Below W.heap.size W w' := by
  show Calls Try.prog 30 #[.agg #[.int .i64 x.f0, .string x.f1], .pointer (some ⟨b, 0, none⟩)] W _
  have hlt := World.block_lt_of_cell? W _ hc
  have hu46 := Try.underlying46
  obtain ⟨f0, f1⟩ := x
  by_cases h1 : f0 < 0
  · go_enter Try.func30, Try.ntmps30
    go_wp2
    go_ret
    exact ⟨by simp [badW, h1], (Below.refl _ _).alloc (Nat.le_refl _) _⟩
  · by_cases h2 : (n0 : Int) ≤ f0
    · go_enter Try.func30, Try.ntmps30
      go_wp2
      go_ret
      exact ⟨by simp [badW, h2], (Below.refl _ _).alloc (Nat.le_refl _) _⟩
    · go_enter Try.func30, Try.ntmps30
      go_wp2
      go_ret
      exact ⟨by simp [badW, h1, h2]; omega, (Below.refl _ _).alloc (Nat.le_refl _) _⟩
set_option maxHeartbeats 4000000 in
set_option maxRecDepth 100000 in
theorem dRight.calls (A0_0 : Option Addr) (c0_0 : Nat) (l0_0 : List ByteArray) (A0_1 : Option Addr) (c0_1 : Nat) (l0_1 : List (S46)) (r : Bool) (w : World) (hr0_0 : Kd.C Kd.string w A0_0 l0_0.length l0_0) (hc0_0 : l0_0.length ≤ c0_0) (hr0_1 : Kd.C k46 w A0_1 l0_1.length l0_1) (hc0_1 : l0_1.length ≤ c0_1) (h : dRight.f l0_0 l0_1 = some r) :
    Calls Try.prog 12 #[.agg #[.slice A0_0 l0_0.length c0_0, .slice A0_1 l0_1.length c0_1]] w fun e w' => e = .returned (.bool r) ∧ Below w.heap.size w w' := by
  have H := Aside0.mk h
  have HR0 := Aside0.mk hr0_0
  have HR1 := Aside0.mk hr0_1
  clear h hr0_0 hr0_1
  have hu25 := Try.underlying25
  have eg28 := enters_of Try.func28 (by kernel_rfl) rfl
  have eg30 := enters_of Try.func30 (by kernel_rfl) rfl
  by_cases h1 : (512 : Int) < (l0_0.length : Int)
  · obtain rfl : false = r := by have h2 := H.out; unfold dRight.f at h2; rw [if_pos h1] at h2; exact Option.some.inj h2
    clear H
    go_enter Try.func12, Try.ntmps12
    go_wp2_with fail
    go_ret
    exact ⟨rfl, (Below.refl _ _).alloc (Nat.le_refl _) _⟩
  · cases h2 : l0_0.any badS with
    | true =>
      have H2 := Aside0.mk h2
      have HC := Aside0.mk (fun W0 (hb0 : Below w.heap.size w W0) => conS badS 28 #[] eg28 A0_0 l0_0.length c0_0 l0_0 W0 (Kd.C_below HR0.out hb0) (fun W x hb => (badS_calls W x).mono (fun _ _ hq => ⟨hq.1, hb.trans (hq.2.mono hb.size)⟩)))
      clear h2
      obtain rfl : false = r := by have h2 := H.out; unfold dRight.f at h2; rw [if_neg h1, if_pos H2.out] at h2; exact Option.some.inj h2
      simp only [H2.out] at HC
      clear H
      go_enter Try.func12, Try.ntmps12
      go_wp2_with (go_at_call 27; refine (HC.out _ ((Below.refl _ _).alloc (Nat.le_refl _) _)).mono ?_; rintro e w' ⟨rfl, hb'⟩)
      go_ret
      exact ⟨rfl, ((Below.refl _ _).alloc (Nat.le_refl _) _).trans (hb'.mono (by simp))⟩
    | false =>
      have H2 := Aside0.mk h2
      have HC := Aside0.mk (fun W0 (hb0 : Below w.heap.size w W0) => conS badS 28 #[] eg28 A0_0 l0_0.length c0_0 l0_0 W0 (Kd.C_below HR0.out hb0) (fun W x hb => (badS_calls W x).mono (fun _ _ hq => ⟨hq.1, hb.trans (hq.2.mono hb.size)⟩)))
      clear h2
      simp only [H2.out] at HC
      have HD := Aside0.mk (fun W0 (hb0 : Below w.heap.size w W0) (hc : W0.cell? ⟨w.heap.size, 0, none⟩ = some (.slice A0_0 l0_0.length c0_0)) => conW (badW l0_0.length) 30 #[.pointer (some ⟨w.heap.size, 0, none⟩)] eg30 A0_1 l0_1.length c0_1 l0_1 W0 (Kd.C_below HR1.out hb0) (fun W x hb => (badW_calls W x w.heap.size A0_0 l0_0.length c0_0 ((hb.cell (p := ⟨w.heap.size, 0, none⟩) (World.block_lt_of_cell? W0 _ hc)).trans hc)).mono (fun _ _ hq => ⟨hq.1, hb.trans (hq.2.mono hb.size)⟩)))
      have H3 := Aside0.mk (show r = !l0_1.any (badW l0_0.length) by have h2 := H.out; unfold dRight.f at h2; rw [if_neg h1, if_neg (by rw [H2.out]; simp)] at h2; simpa using h2.symm)
      generalize l0_1.any (badW l0_0.length) = q at HD H3
      obtain rfl : r = !q := H3.out
      clear H3 H
      go_enter Try.func12, Try.ntmps12
      go_wp2_with (first | (go_at_call 27; refine (HC.out _ ((Below.refl _ _).alloc (Nat.le_refl _) _)).mono ?_; rintro e w' ⟨rfl, hb'⟩; have hcB : w'.cell? ⟨w.heap.size, 0, none⟩ = some (.slice A0_0 l0_0.length c0_0) := (hb'.cell (p := ⟨w.heap.size, 0, none⟩) (by simp)).trans (by simp); have hcB1 : w'.cell? ⟨w.heap.size, 1, none⟩ = some (.slice A0_1 l0_1.length c0_1) := (hb'.cell (p := ⟨w.heap.size, 1, none⟩) (by simp)).trans (by simp); have hbw := Aside0.mk (((Below.refl w.heap.size w).alloc (Nat.le_refl _) _).trans (hb'.mono (by simp))); clear hb') | (go_at_call 29; refine (HD.out _ hbw.out hcB).mono ?_; rintro e w'' ⟨rfl, hb''⟩))
      go_ret
      exact ⟨rfl, hbw.out.trans (hb''.mono hbw.out.size)⟩
end Go.Proofs.Ytdaonhgcejjlhaa.P
