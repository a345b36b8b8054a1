/- script.runs (functions 32, 42): its closure hands on every run, the first first. -/
import Derived.Test.YtcnclgneldonfaaDoorHf
import Derived.RangeFuncNested
import Derived.RangeFuncBound
import Derived.RangeFuncCalls
import Derived.RangeFuncLeaves
import Derived.Shelf.Abstract
import Derived.Shelf.RegionOpen
import Derived.OwnWalkIn
import Derived.TacticsInMore
import Derived.LoopNIn
import Derived.LoopIn
import Derived.Sort.QuietIn
namespace Go.Proofs.YtcnclgneldonfaaDoor.P
open Go Go.RowKit Go.Shelf Go.Proofs.YtcnclgneldonfaaDoorW.PrintWords Go.Proofs.YtcnclgneldonfaaDoorW.PrintLast Go.Proofs.YtcnclgneldonfaaDoorW.PrintMore
attribute [local go_sem] Oper.semAt_some
set_option linter.unusedVariables false
set_option linter.unusedSimpArgs false
/-- Two steps of one thread. -/
def sameP (p q : S26) : Bool := p.f0 == 1 && (q.f0 == 1 && q.f1 == p.f1)
/-- The runs. -/
def runsL : List S26 → List (S26 × Nat)
  | [] => []
  | p :: l => match runsL l with
    | [] => [(p, 1)]
    | (q, n) :: r => if sameP p q then (p, n + 1) :: r else (p, 1) :: (q, n) :: r
theorem runsL_head (q : S26) (l : List S26) : ∃ n r, runsL (q :: l) = (q, n) :: r := by
  unfold runsL
  split
  · exact ⟨_, _, rfl⟩
  · split
    · exact ⟨_, _, rfl⟩
    · exact ⟨_, _, rfl⟩
theorem sameP_iff {p q : S26} : sameP p q = true ↔ p.f0 = 1 ∧ q.f0 = 1 ∧ q.f1 = p.f1 := by unfold sameP; simp
theorem runsL_run (l : List S26) : ∀ d i : Nat, (hi : i + d < l.length) → (∀ k, i < k → (hk : k ≤ i + d) → sameP l[i] l[k] = true) → (∀ h : i + d + 1 < l.length, sameP l[i] l[i + d + 1] = false) → runsL (l.drop i) = (l[i], d + 1) :: runsL (l.drop (i + d + 1))
  | 0, i, hi, _, he => by
    rw [List.drop_eq_getElem_cons (show i < l.length by omega)]
    by_cases h : i + 1 < l.length
    · obtain ⟨n, r, e⟩ := runsL_head l[i + 1] (l.drop (i + 1 + 1))
      rw [← List.drop_eq_getElem_cons h] at e
      have h2 := he h
      show runsL (l[i] :: l.drop (i + 1)) = _ :: runsL (l.drop (i + 1))
      rw [runsL, e]
      simp only
      rw [show sameP l[i] l[i + 1] = false from h2]
      simp
    · have : l.drop (i + 1) = [] := List.drop_of_length_le (by omega)
      show runsL (l[i] :: l.drop (i + 1)) = _ :: runsL (l.drop (i + 1))
      rw [this]
      rfl
  | d + 1, i, hi, hs, he => by
    have h1 := hs (i + 1) (by omega) (by omega)
    have h1' := sameP_iff.1 h1
    have ih := runsL_run l d (i + 1) (by omega) (fun k hk1 hk2 => by
      have := sameP_iff.1 (hs k (by omega) (by omega))
      exact sameP_iff.2 ⟨h1'.2.1, this.2.1, by rw [this.2.2, h1'.2.2]⟩) (fun h => by
      have := he (by omega)
      cases hq : sameP l[i + 1] l[i + 1 + d + 1] with
      | false => rfl
      | true =>
        have h2 := sameP_iff.1 hq
        rw [← this]
        refine (sameP_iff.2 ⟨h1'.1, ?_, ?_⟩).symm
        · simp only [show i + (d + 1) + 1 = i + 1 + d + 1 by omega]; exact h2.2.1
        · simp only [show i + (d + 1) + 1 = i + 1 + d + 1 by omega]; rw [h2.2.2, h1'.2.2])
    rw [List.drop_eq_getElem_cons (show i < l.length by omega), runsL, ih]
    simp only
    rw [if_pos h1, show i + (d + 1) + 1 = i + 1 + d + 1 by omega]
theorem gD (l : List S26) (i : Nat) (h : i < l.length) : l.getD i z26 = l[i] := by simp [List.getD_eq_getElem?_getD, h]
/-- A row of picks, by its cells: in a block below n₀. -/
def PRow (n₀ : Nat) (W : World) (A : Option Addr) (l : List S26) (D : Nat → Option Addr × Nat) : Prop :=
  ∀ i, i < l.length → ∃ ad, A = some ad ∧ ad.block < n₀ ∧ W.cell? (ad.add (i * 4)) = some (.int .i64 (l.getD i z26).f0) ∧ W.cell? ⟨(ad.add (i * 4)).block, (ad.add (i * 4)).off + 1, none⟩ = some (.int .i64 (l.getD i z26).f1) ∧ W.cell? ⟨(ad.add (i * 4)).block, (ad.add (i * 4)).off + 2, none⟩ = some (.int .i64 (l.getD i z26).f2) ∧ W.cell? ⟨(ad.add (i * 4)).block, (ad.add (i * 4)).off + 3, none⟩ = some (.slice (D i).1 (l.getD i z26).f3.length (D i).2)
theorem add_block (ad : Addr) (n : Nat) : (ad.add n).block = ad.block := by unfold Addr.add; split <;> rfl
theorem PRow.below {n₀ : Nat} {X Y : World} {A : Option Addr} {l : List S26} {D : Nat → Option Addr × Nat} (h : Below n₀ X Y) (hl : PRow n₀ X A l D) : PRow n₀ Y A l D := fun i hi => by
  obtain ⟨ad, e, hb, k0, k1, k2, k3⟩ := hl i hi
  have hb' : (ad.add (i * 4)).block < n₀ := by rw [add_block]; exact hb
  exact ⟨ad, e, hb, (h.cell (p := ad.add (i * 4)) hb').trans k0, (h.cell (p := ⟨_, _, none⟩) hb').trans k1, (h.cell (p := ⟨_, _, none⟩) hb').trans k2, (h.cell (p := ⟨_, _, none⟩) hb').trans k3⟩
def encR (l : List S26) (D : Nat → Option Addr × Nat) (x : Fin l.length × Fin (l.length + 1)) : Array Value := #[.agg #[.int .i64 (l.getD x.1.1 z26).f0, .int .i64 (l.getD x.1.1 z26).f1, .int .i64 (l.getD x.1.1 z26).f2, .slice (D x.1.1).1 (l.getD x.1.1 z26).f3.length (D x.1.1).2], .int .i64 (x.2.1 : Int)]
def runOf (l : List S26) (x : Fin l.length × Fin (l.length + 1)) : S26 × Nat := (l.getD x.1.1 z26, x.2.1)
/-- What a round keeps: what lay below n₀, and the closure's own box. -/
def Kr (n₀ Bs : Nat) (X Y : World) : Prop := Below n₀ X Y ∧ Y.heap[Bs]? = X.heap[Bs]?
theorem Kr.refl (n₀ Bs : Nat) (X : World) : Kr n₀ Bs X X := ⟨Below.refl _ _, rfl⟩
theorem Kr.trans {n₀ Bs : Nat} {X Y Z : World} (h : Kr n₀ Bs X Y) (k : Kr n₀ Bs Y Z) : Kr n₀ Bs X Z := ⟨h.1.trans k.1, k.2.trans h.2⟩
theorem Kr.draw {n₀ Bs : Nat} {X Y : World} (h : Kr n₀ Bs X Y) (m : Nat) : Kr n₀ Bs X (Y.drewN m) := ⟨pw_below_drewN h.1 m, h.2⟩
theorem Kr.put {n₀ Bs : Nat} {w : World} (hn : n₀ ≤ w.heap.size) (hB : Bs < w.heap.size) (W : World) (l : Nat) (o o' : Obj) (hl : w.heap.size ≤ l) (h : W.heap[l]? = some o) (h1 : o.isCells = false) (h2 : o.isWalk = false) : Kr n₀ Bs W (W.putObj l o') := ⟨belowK_b hn W l o o' hl h h1 h2, World.putObj_heap_other (by omega)⟩
set_option maxRecDepth 100000 in
set_option maxHeartbeats 4000000 in
/-- The closure. -/
theorem runs_in (F : Fence) (f : Nat) (h42 : F.fn 42) (hro : F.round = none) (hn : 1 ≤ f) (lk Bs n₀ : Nat) (A : Option Addr) (cap : Nat) (l : List S26) (D : Nat → Option Addr × Nat) (hmax : l.length ≤ 1000000) (J Jx : List (Fin l.length × Fin (l.length + 1)) → World → Prop)
    (hJ : ∀ pre W m, J pre W → J pre (W.drewN m))
    (hY : ∀ pre x W, J pre W → pre.length < l.length → YieldAt F (f - 1) Tryd.prog lk (encR l D x) W fun e W' =>
      (e = .returned (.bool true) ∧ J (pre ++ [x]) W' ∧ Kr n₀ Bs W W') ∨ (e = .returned (.bool false) ∧ Jx (pre ++ [x]) W'))
    (W : World) (hBs : Boxed W Bs 27 (.slice A l.length cap)) (hL : PRow n₀ W A l D) (h0 : J [] W) :
    CallsIn F f Tryd.prog 42 #[.func (.yield lk) #[] #[], .pointer (some ⟨Bs, 0, none⟩)] W fun e W' => (∃ v, e = .returned v) ∧
      ((∃ ys, ys.map (runOf l) = runsL l ∧ J ys W') ∨ (∃ pre, True ∧ Jx pre W')) := by
  refine callsIn_of_wp Tryd.func42 rfl h42 ?_ hro
  simp only [Tryd.ntmps42, List.size_toArray, List.length_cons, List.length_nil, Nat.reduceAdd, Nat.reduceSub, Array.replicate_succ, Array.replicate_zero, List.push_toArray, List.append_toArray, List.nil_append, List.cons_append]
  gi_wp2
  gi_loopw [3] (fun v3 wr => ∃ (i : Nat) (pre : List (Fin l.length × Fin (l.length + 1))), i ≤ l.length ∧ v3 = .int .i64 i ∧ pre.length ≤ i ∧ Aside0 (pre.map (runOf l) ++ runsL (l.drop i) = runsL l) ∧ Aside0 (J pre wr) ∧ Aside0 (Kr n₀ Bs W wr))
    (fun v3 _ => l.length - (intOf v3).toNat)
  case atStart => exact ⟨0, [], Nat.zero_le _, rfl, Nat.le_refl _, ⟨rfl⟩, ⟨h0⟩, ⟨Kr.refl _ _ _⟩⟩
  case round =>
    obtain ⟨i, pre, hi, rfl, hpl, HR, HJ, HB⟩ := hrel
    have hc := Boxed.cell (HB.out.2.trans hBs)
    by_cases hlt : i < l.length
    · have hlti : (i : Int) < (l.length : Int) := by omega
      obtain ⟨ad, hA, hbl, -⟩ := hL i hlt
      subst hA
      have HP := Aside0.mk (fun V (hV : Kr n₀ Bs W V) => hL.below hV.1)
      have HJD := Aside0.mk hJ
      clear hJ hL h0
      gi_wp2
      rename_i KX hKX
      have HK : ∀ (d : Nat) (kk : Int) (V : World) (x11 x12 x13 x14 x15 x16 x17 x18 x19 x20 x21 x22 x23 x24 x25 x26 x27 x28 x29 x30 x31 x32 x33 x34 x35 x36 x37 x38 x39 x40 x41 x42 x43 x44 x45 : Value), ((i + d + 1 : Nat) : Int) = kk → i + d < l.length → (∀ k, i < k → (hk : k ≤ i + d) → (h : k < l.length) → sameP l[i] l[k] = true) → (∀ h : i + d + 1 < l.length, sameP l[i] l[i + d + 1] = false) → J pre V → Aside0 (Kr n₀ Bs W V) → KX { tmps := #[.func (.yield lk) #[] #[], .pointer (some ⟨Bs, 0, none⟩), undef, .int .i64 i, .int .i64 kk, .int .i64 i, .slice (some ad) l.length cap, .int .i64 l.length, .bool true, .int .i64 i, .int .i64 (i + 1), x11, x12, x13, x14, x15, x16, x17, x18, x19, x20, x21, x22, x23, x24, x25, x26, x27, x28, x29, x30, x31, x32, x33, x34, x35, x36, x37, x38, x39, x40, x41, x42, x43, x44, x45, u46, u47, u48, u49, u50, u51, u52, u53, u54, u55, u56], defers := [] } V := by
        intro d kk V x11 x12 x13 x14 x15 x16 x17 x18 x19 x20 x21 x22 x23 x24 x25 x26 x27 x28 x29 x30 x31 x32 x33 x34 x35 x36 x37 x38 x39 x40 x41 x42 x43 x44 x45 hkk hd hs he hJV HBV
        refine hKX _ _ ?_
        clear hKX
        have hrun := runsL_run l d i hd (fun k h1 h2 => hs k h1 h2 (by omega)) he
        have hup := HR.out
        rw [hrun] at hup
        have HUP := Aside0.mk hup
        clear hup hrun hs he HR
        have hc2 := Boxed.cell (HBV.out.2.trans hBs)
        obtain ⟨ad2, e2, -, k0, k1, k2, k3⟩ := HP.out V HBV.out i hlt
        injection e2 with e2
        subst e2
        have hxle : d + 1 < l.length + 1 := by omega
        obtain ⟨x, hx⟩ : ∃ x : Fin l.length × Fin (l.length + 1), x = (⟨i, hlt⟩, ⟨d + 1, hxle⟩) := ⟨_, rfl⟩
        have hx1 : x.1.1 = i := by rw [hx]
        have hx2 : x.2.1 = d + 1 := by rw [hx]
        clear hx
        obtain ⟨fn, tmps, assign, body, hy, hR⟩ := hY pre x V hJV (by omega)
        unfold encR at hy
        rw [hx1, hx2] at hy
        rw [show ((d + 1 : Nat) : Int) = kk - (i : Int) by omega] at hy
        have hk0 : (i : Int) < kk ∧ kk ≤ l.length := by omega
        rw [gD l i hlt] at hy k0 k1 k2 k3
        have hro1 : runOf l x = (l[i], d + 1) := by unfold runOf; rw [hx1, hx2, gD l i hlt]
        have HUP2 : Aside0 ((pre ++ [x]).map (runOf l) ++ runsL (l.drop (i + d + 1)) = runsL l) := ⟨by rw [List.map_append, List.map_singleton, hro1, List.append_assoc]; exact HUP.out⟩
        clear hro1 HUP
        generalize hp : l[i] = p at hy k0 k1 k2 k3
        have HKK := Aside0.mk hkk
        clear hkk hx1 hx2
        gi_wp2
        refine hR.mono ?_
        rintro e W3 (⟨rfl, hJ3, hk3⟩ | ⟨rfl, hJx3⟩)
        · gi_wp2
          go_roundw
          case rel => exact ⟨i + d + 1, pre ++ [x], by omega, by rw [HKK.out], by simp; omega, HUP2, ⟨hJ3⟩, ⟨HBV.out.trans hk3⟩⟩
          case measure => have := HKK.out; simp [intOf]; omega
        · gi_wp2
          refine bodyPost_ret (results_none rfl _ _ _) rfl ?_
          exact ⟨⟨_, rfl⟩, .inr ⟨_, trivial, hJx3⟩⟩
      clear hKX hY
      have HKX := Aside0.mk HK
      clear HK
      have HPR := HP.out wr HB.out i hlt
      clear HPR
      have HJ0 := HJ
      have HB0 := HB
      clear HJ HB hc
      gi_loopw [4] (fun v4 w2 => ∃ d : Nat, i + d < l.length ∧ v4 = .int .i64 ((i + d + 1 : Nat) : Int) ∧ Aside0 (∀ k, i < k → (hk : k ≤ i + d) → (h : k < l.length) → sameP l[i] l[k] = true) ∧ Aside0 (J pre w2) ∧ Aside0 (Kr n₀ Bs W w2))
        (fun v4 _ => l.length - (intOf v4).toNat)
      case atStart => exact ⟨0, by omega, rfl, ⟨fun k h1 h2 => absurd h1 (by omega)⟩, HJ0, HB0⟩
      case round =>
        obtain ⟨d, hd, rfl, HS, HJ, HB⟩ := hrel
        have hc := Boxed.cell (HB.out.2.trans hBs)
        obtain ⟨kk, hkk⟩ : ∃ kk : Int, ((i + d + 1 : Nat) : Int) = kk := ⟨_, rfl⟩
        have hkt : kk.toNat = i + d + 1 := by omega
        rw [hkk]
        have hgo : ∀ b, (∀ h : i + d + 1 < l.length, sameP l[i] l[i + d + 1] = b) → ∀ h : i + d + 1 < l.length, sameP l[i] l[i + d + 1] = b := fun _ h => h
        clear hgo
        obtain ⟨ad2, e2, -, p0, p1, -, -⟩ := HP.out wr HB.out i hlt
        injection e2 with e2
        subst e2
        rw [gD l i hlt] at p0 p1
        by_cases hk : i + d + 1 < l.length
        · obtain ⟨ad2, e2, -, q0, q1, -, -⟩ := HP.out wr HB.out (i + d + 1) hk
          injection e2 with e2
          subst e2
          rw [gD l _ hk] at q0 q1
          have hki : kk < (l.length : Int) := by omega
          have hkd : decide (kk < (l.length : Int)) = true := decide_eq_true hki
          have hkp : 0 ≤ kk := by omega
          have HG : Aside0 (i + d + 1 < l.length ∧ ((i + d + 1 : Nat) : Int) = kk) := ⟨hk, hkk⟩
          have HSM : Aside0 (∀ p q : S26, p = l[i] → q = l[i + d + 1] → ∀ h : i + d + 1 < l.length, sameP l[i] l[i + d + 1] = sameP p q) := ⟨fun p q e1 e2 _ => by rw [e1, e2]⟩
          generalize hp : l[i] = p at *
          generalize hq : l[i + d + 1] = q at *
          have HSE := Aside0.mk (HSM.out p q rfl rfl)
          clear HSM
          by_cases hp0 : p.f0 = 1
          · have hpd : decide (p.f0 = 1) = true := decide_eq_true hp0
            by_cases hq0 : q.f0 = 1
            · have hqd : decide (q.f0 = 1) = true := decide_eq_true hq0
              by_cases hq1 : q.f1 = p.f1
              · have hqe : decide (q.f1 = p.f1) = true := decide_eq_true hq1
                gi_wp2
                refine wpIn_region_quiet_lit hro (by kernel_rfl) (by kernel_rfl) ?_
                repeat (gi_big_quiet_step (fail))
                refine wpQuietIn_nil ?_
                rintro _ ⟨nq, rfl⟩
                gi_wp2
                go_roundw
                case rel =>
                  refine ⟨d + 1, by omega, by have := HG.out.2; go_num, ⟨fun k h1 h2 h => ?_⟩, ⟨HJD.out _ _ nq HJ.out⟩, ⟨HB.out.draw nq⟩⟩
                  by_cases e : k ≤ i + d
                  · exact HS.out k h1 e h
                  · obtain rfl : k = i + d + 1 := by omega
                    rw [HSE.out h, sameP]; simp [hp0, hq0, hq1]
                case measure => have := HG.out; simp [intOf]; omega
              · have hqe : decide (q.f1 = p.f1) = false := decide_eq_false hq1
                gi_wp2
                refine wpIn_region_quiet_lit hro (by kernel_rfl) (by kernel_rfl) ?_
                repeat (gi_big_quiet_step (fail))
                refine wpQuietIn_nil ?_
                rintro _ ⟨nq, rfl⟩
                gi_wp2
                exact HKX.out d kk _ _ _ _ _ _ _ _ _ _ _ _ _ _ _ _ _ _ _ _ _ _ _ _ _ _ _ _ _ _ _ _ _ _ _ _ HG.out.2 hd HS.out (fun h => by rw [HSE.out h, sameP]; simp [hp0, hq0, hq1]) (HJD.out _ _ nq HJ.out) ⟨HB.out.draw nq⟩
            · have hqd : (q.f0 == 1) = false := by simpa using hq0
              gi_wp2
              refine wpIn_region_quiet_lit hro (by kernel_rfl) (by kernel_rfl) ?_
              repeat (gi_big_quiet_step (fail))
              refine wpQuietIn_nil ?_
              rintro _ ⟨nq, rfl⟩
              gi_wp2
              exact HKX.out d kk _ _ _ _ _ _ _ _ _ _ _ _ _ _ _ _ _ _ _ _ _ _ _ _ _ _ _ _ _ _ _ _ _ _ _ _ HG.out.2 hd HS.out (fun h => by rw [HSE.out h, sameP]; simp [hp0, hq0]) (HJD.out _ _ nq HJ.out) ⟨HB.out.draw nq⟩
          · have hpd : (p.f0 == 1) = false := by simpa using hp0
            gi_wp2
            refine wpIn_region_quiet_lit hro (by kernel_rfl) (by kernel_rfl) ?_
            repeat (gi_big_quiet_step (fail))
            refine wpQuietIn_nil ?_
            rintro _ ⟨nq, rfl⟩
            gi_wp2
            exact HKX.out d kk _ _ _ _ _ _ _ _ _ _ _ _ _ _ _ _ _ _ _ _ _ _ _ _ _ _ _ _ _ _ _ _ _ _ _ _ HG.out.2 hd HS.out (fun h => by rw [HSE.out h, sameP]; simp [hp0]) (HJD.out _ _ nq HJ.out) ⟨HB.out.draw nq⟩
        · have hki : ¬ kk < (l.length : Int) := by omega
          have hkd : decide (kk < (l.length : Int)) = false := decide_eq_false hki
          gi_wp2
          refine wpIn_region_quiet_lit hro (by kernel_rfl) (by kernel_rfl) ?_
          repeat (gi_big_quiet_step (fail))
          refine wpQuietIn_nil ?_
          rintro _ ⟨nq, rfl⟩
          gi_wp2
          exact HKX.out d kk _ _ _ _ _ _ _ _ _ _ _ _ _ _ _ _ _ _ _ _ _ _ _ _ _ _ _ _ _ _ _ _ _ _ _ _ hkk hd HS.out (fun h => absurd h hk) (HJD.out _ _ nq HJ.out) ⟨HB.out.draw nq⟩
    · obtain rfl : i = l.length := by omega
      have hlti : ¬ (l.length : Int) < (l.length : Int) := by omega
      gi_wp2
      go_end0
      have hr := HR.out
      rw [List.drop_length] at hr
      exact ⟨⟨_, rfl⟩, .inl ⟨pre, by simpa [runsL] using hr, HJ.out⟩⟩
/-- The closure as a contract for a loop over it. -/
theorem runs_stops (F : Fence) (f : Nat) (h42 : F.fn 42) (hro : F.round = none) (hn : 1 ≤ f) (Bs n₀ cap : Nat) (A : Option Addr) (l : List S26) (D : Nat → Option Addr × Nat) (hmax : l.length ≤ 1000000) (w : World) (hBw : Bs < w.heap.size) (hn₀ : n₀ ≤ w.heap.size) (hc : Boxed w Bs 27 (.slice A l.length cap)) (hL : PRow n₀ w A l D) :
    SeqStopsK F f Tryd.prog 42 #[.pointer (some ⟨Bs, 0, none⟩)] (encR l D) (Kr n₀ Bs) (fun ys => ys.map (runOf l) = runsL l) (fun _ => True) l.length w := by
  intro lk J Jx W hW hJ _ hY h0
  exact runs_in F f h42 hro hn lk Bs n₀ A cap l D hmax J Jx (fun pre X m h => hJ pre X _ none h (grown_of_below (pw_below_drewN (Below.refl _ _) m) none) (fun r e => by cases e)) hY W ((hW.block Bs hBw).trans hc) (hL.below (hW.mono hn₀)) h0
set_option maxHeartbeats 1000000 in
theorem runs_call (F : Fence) (f : Nat) (h32 : F.fn 32) (hro : F.round = none) (A : Option Addr) (n c : Nat) (w : World) :
    CallsIn F f Tryd.prog 32 #[.slice A n c] w fun e w' => e = .returned (.func (.func 42) #[] #[.pointer (some ⟨w.heap.size, 0, none⟩)]) ∧ w' = w.alloc (.cells #[.slice A n c] 27) := by
  refine callsIn_of_wp Tryd.func32 rfl h32 ?_ hro
  simp only [Tryd.ntmps32, List.size_toArray, List.length_cons, List.length_nil, Nat.reduceAdd, Nat.reduceSub, Array.replicate_succ, Array.replicate_zero, List.push_toArray, List.append_toArray, List.nil_append, List.cons_append]
  gi_wp2
  go_ret
  exact ⟨rfl, rfl⟩
end Go.Proofs.YtcnclgneldonfaaDoor.P
