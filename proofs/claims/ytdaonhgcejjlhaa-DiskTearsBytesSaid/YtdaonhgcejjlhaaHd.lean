/- Contract, proved by hand: slices.Repeat at []string, of one string, at most 1000 times. -/
import Derived.Test.YtdaonhgcejjlhaaPx4
import Derived.WalkSpells
import Derived.Outline
import Derived.Laws.CopyOwn
import Derived.Deep.RegionLaw
import Derived.Deep.DeepMust
namespace Go.Proofs.Ytdaonhgcejjlhaa.P
open Go.RowKit Go.Proofs.YtdaonhgcejjlhaaW.PrintWords Go.Proofs.YtdaonhgcejjlhaaW.PrintLast Go.Proofs.YtdaonhgcejjlhaaW.PrintMore
set_option linter.unusedVariables false
set_option linter.unusedSimpArgs false

def repS.f (l0 : List ByteArray) (a1 : Int) : Option (List ByteArray) := if l0.length = 1 ∧ 0 ≤ a1 ∧ a1 ≤ 1000 then some (List.replicate a1.toNat (l0.getD 0 ByteArray.empty)) else none

theorem u64_and32 (x : Int) (h0 : 0 ≤ x) (h1 : x < 4294967296) : Go.bits .and .u64 x 4294967295 = x := by
  have := bits_mask .u64 32 (by decide) (fun n a b => by simp only [IntKind.wrap, IntKind.bits, IntKind.signed]; simp; omega) 32 (by decide) x h0 (by omega)
  simpa [Int.emod_eq_of_lt h0 h1] using this
theorem mul_one_n (m : Int) (h0 : 0 ≤ m) (h1 : m ≤ 1000) : bits_Mul.f 1 m = some (0, m) := by
  unfold bits_Mul.f bits_Mul64.f
  have w (x : Int) (a : 0 ≤ x) (b : x ≤ 1000000) : IntKind.u64.wrap x = x := by simp only [IntKind.wrap, IntKind.bits, IntKind.signed]; simp; omega
  rw [u64_and32 m h0 (by omega), u64_and32 1 (by omega) (by omega)]
  have e1 : m / 4294967296 = 0 := by omega
  have e2 : (1 : Int) / 4294967296 = 0 := by decide
  rw [e1, e2]
  simp only [Int.zero_mul, Int.mul_zero, Int.one_mul, Int.zero_add, Int.add_zero]
  rw [w 0 (by omega) (by omega), w m h0 (by omega), e1]
  simp only [Int.zero_add, Int.add_zero]
  rw [w 0 (by omega) (by omega), u64_and32 0 (by omega) (by omega)]
  first | simp [w] | (simp only [Int.zero_add, Int.add_zero]; simp [w]) | rfl

theorem rep_splice (S Z : Value) (k j m : Nat) (h : k + j ≤ m) : splice (List.replicate k S ++ List.replicate (m - k) Z) k (List.replicate j S) = List.replicate (k + j) S ++ List.replicate (m - (k + j)) Z := by
  unfold splice
  rw [List.take_left' (by simp), List.length_replicate, List.drop_append, List.drop_eq_nil_of_le (by simp), List.nil_append, List.length_replicate, List.drop_replicate, ← List.append_assoc, List.replicate_append_replicate]
  congr 2
  omega

def RowIs (w : World) (g k m : Nat) (s : ByteArray) : Prop := w.heap[g]? = some (.cells (List.replicate k (Value.string s) ++ List.replicate (m - k) (Value.string ⟨#[]⟩)).toArray 9 (0, 0))

theorem make_ev {ops : Array Oper} {rest : List Oper} {o : Oper} {a : Act} {Q : Exit → Act → World → Prop} {W : World} (hgd : o.guard = none) {N : Tmp} (hd : o.dst = some N) (x y : Operand) (ho : o.op = .makeSlice 22 x y) (m : Nat) (hx : a.eval x = .int .i64 m) (hy : a.eval y = .int .i64 m) (hm : m ≤ 1000)
    (h : wpList Try.prog ops Q rest (a.put o.dst (.slice (some ⟨W.heap.size, 0, none⟩) m m)) (W.alloc (.cells (Array.replicate m (Value.string ⟨#[]⟩)) 9))) : wpList Try.prog ops Q (o :: rest) a W := by
  obtain ⟨i0, hi, hzz⟩ := Option.map_eq_some_iff.1 info9
  simp only [Prod.mk.injEq] at hzz
  obtain ⟨hz0, hz1, hz2⟩ := hzz
  have hr := run_make (P := Try.prog) W 22 9 i0 (.string ⟨#[]⟩) Try.underlying22 hi hz0 .i64 .i64 (m : Int) (m : Int) (by omega) (by omega) (by rw [hz2]; omega) (by omega)
  simp only [Int.toNat_natCast] at hr
  rw [hz1, Nat.mul_one] at hr
  have e : madeCells (Value.string ⟨#[]⟩).cells m = (Array.replicate m (Value.string ⟨#[]⟩)) := by
    show madeCells #[Value.string ⟨#[]⟩] m = _
    apply Array.ext'
    rw [toList_madeCells_one]
    simp
  rw [e] at hr
  refine Kd.event_run hgd ?_ h
  simp [execOp, ho, hx, hy, hr]

theorem src_of (wr : World) (g k j m : Nat) (s : ByteArray) (h : RowIs wr g k m s) (hj : j ≤ k) (hk : k + j ≤ m) :
    0 < (List.replicate j (Value.string s)).length → (some (⟨g, k, none⟩ : Addr) = some ⟨g, k, none⟩ ∧ ∃ ad', some (⟨g, 0, none⟩ : Addr) = some ad' ∧ ∀ i v, (List.replicate j (Value.string s))[i]? = some v → wr.cell? (ad'.add i) = some v) := fun _ => ⟨rfl, _, rfl, fun i v hi => by
  obtain ⟨h1, h2⟩ := List.getElem?_eq_some_iff.1 hi
  simp at h1 h2
  subst h2
  rw [add_plain]
  unfold RowIs at h
  simp [World.cell?, h]
  rw [List.getElem?_append_left (by simp; omega), List.getElem?_replicate_of_lt (by omega)]⟩
theorem copy_src (w : World) (ad : Addr) (m nd : Nat) (s : ByteArray) (hlt : ad.block < w.heap.size) (hc : w.cell? ad = some (.string s)) :
    0 < (List.replicate (Nat.min 1 m) (Value.string s)).length → (some (⟨w.heap.size, 0, none⟩ : Addr) = some ⟨w.heap.size, 0, none⟩ ∧ ∃ ad', some ad = some ad' ∧ ∀ j v, (List.replicate (Nat.min 1 m) (Value.string s))[j]? = some v → ((w.drewN nd).alloc (.cells (Array.replicate m (Value.string ⟨#[]⟩)) 9)).cell? (ad'.add j) = some v) := fun _ => ⟨rfl, ad, rfl, fun j v hj => by
  obtain ⟨hj1, hj2⟩ := List.getElem?_eq_some_iff.1 hj
  simp at hj1 hj2
  have hmn : Nat.min 1 m ≤ 1 := Nat.min_le_left _ _
  obtain rfl : j = 0 := by omega
  subst hj2
  have hb0 : (ad.add 0).block = ad.block := by unfold Addr.add; split <;> rfl
  have ha0 : ad.add 0 = ad := by cases ad; simp [Addr.add]
  rw [World.cell?_alloc_old _ _ _ (by rw [hb0]; show ad.block ≠ w.heap.size; omega), ha0]
  exact hc⟩

set_option maxHeartbeats 8000000 in
set_option maxRecDepth 100000 in
theorem repS_walk (ad : Addr) (c0 m : Nat) (s : ByteArray) (w : World) (hm : m ≤ 1000) (hc : w.cell? ad = some (.string s)) :
    Calls Try.prog 25 #[.slice (some ad) 1 c0, .int .i64 m] w fun e w' => ∃ g, e = .returned (.slice (some ⟨g, 0, none⟩) m m) ∧ w.heap.size ≤ g ∧ RowIs w' g m m s ∧ Below w.heap.size w w' := by
  have hmul := mul_one_n (m : Int) (by omega) (by omega)
  have HM := Aside0.mk hmul
  clear hmul
  have hm0 : (0 : Int) ≤ (m : Int) := by omega
  have hm1 : (m : Int) ≤ 1000 := by omega
  have hsz : (Try.prog.info? 9).map (·.size) = some 1 := by kernel_rfl
  have HC := Aside0.mk hc
  have hlt := World.block_lt_of_cell? w _ hc
  clear hc
  go_enter Try.func25, Try.ntmps25
  have H1 := Aside0.mk (fun nd : Nat => show ((w.drewN nd).alloc (.cells (Array.replicate m (Value.string ⟨#[]⟩)) 9)).heap[w.heap.size]? = _ from heap_alloc_new (w.drewN nd) _)
  have HL := Aside0.mk hlt
  clear hlt
  have H3 := Aside0.mk (fun nd : Nat => show Below w.heap.size w ((w.drewN nd).alloc (.cells (Array.replicate m (Value.string ⟨#[]⟩)) 9)) from below_alloc (pw_below_drewN (Below.refl _ _) nd) _)
  go_wp2_with (first | (go_at_call 41; refine (bits_Mul.calls 1 (m : Int) 0 (m : Int) _ HM.out).mono ?_; rintro e w' ⟨rfl, ⟨nd, rfl⟩⟩) | ((with_reducible refine gate_dst (N := 30) rfl ?_); refine make_ev rfl (N := 30) rfl _ _ rfl m rfl rfl hm ?_) | ((with_reducible refine gate_dst (N := 33) rfl ?_); go_must (refine wpList_copy_splice rfl (.tmp 31) (.tmp 32) 22 22 rfl 9 Try.underlying22 hsz _ (some ad) m m 1 c0 rfl rfl w.heap.size 0 (List.replicate m (Value.string ⟨#[]⟩)) 9 (H1.out nd) (List.replicate (Nat.min 1 m) (Value.string s)) (by simp) (copy_src w ad m nd s HL.out HC.out) (by have := Nat.min_le_right 1 m; simp; omega) (fun v hv => by rw [List.eq_of_mem_replicate hv]; rfl) w.heap.size w (H3.out nd) (Nat.le_refl _) ?_); intro w3 hrow3 hb3))
  clear H1 H3 HM
  have hrow := hrow3.out
  have HB3 := Aside0.mk hb3
  clear hrow3 hb3
  have HR3 : Aside0 (RowIs w3 w.heap.size (Nat.min 1 m) m s) := ⟨by
    unfold RowIs
    rw [hrow]
    have e := rep_splice (Value.string s) (Value.string ⟨#[]⟩) 0 (Nat.min 1 m) m (by have : Nat.min 1 m ≤ m := Nat.min_le_right 1 m; omega)
    simp only [Nat.sub_zero, List.replicate_zero, List.nil_append, Nat.zero_add] at e
    rw [e]⟩
  clear hrow
  obtain ⟨g, hg⟩ : ∃ g, g = w.heap.size := ⟨_, rfl⟩
  have HG := Aside0.mk hg
  rw [← hg] at HR3
  go_loopg [8] m (fun gg s8 wr => ∃ k : Nat, Nat.min 1 m ≤ k ∧ k ≤ m ∧ m - k ≤ gg ∧ s8 = .int .i64 k ∧ Aside0 (RowIs wr w.heap.size k m s) ∧ Aside0 (Below w.heap.size w wr))
  case atStart => exact ⟨Nat.min 1 m, Nat.le_refl _, Nat.min_le_right _ _, by omega, by simp [goInt], by rw [← HG.out]; exact HR3, HB3⟩
  case round =>
    obtain ⟨k, hk1, hk2, hk3, rfl, HR, HB⟩ := hrel
    clear HR3 HB3
    by_cases hlt : k < m
    · have hk0 : 1 ≤ k := by have : Nat.min 1 m = 1 := Nat.min_eq_left (by omega); omega
      clear hk1
      have hki : (k : Int) < (m : Int) := by omega
      have hki0 : (0 : Int) ≤ (k : Int) := by omega
      have hcm : ¬ (m = k) := by omega
      have hmn1 : Nat.min k (m - k) ≤ m - k := Nat.min_le_right _ _
      have hmn2 : Nat.min k (m - k) ≤ k := Nat.min_le_left _ _
      have hmn3 : 1 ≤ Nat.min k (m - k) := Nat.le_min.2 ⟨hk0, by omega⟩
      obtain ⟨j, hj⟩ : ∃ j, j = Nat.min k (m - k) := ⟨_, rfl⟩
      rw [← hj] at hmn1 hmn2 hmn3
      have HJ := Aside0.mk hj
      clear hj
      go_wp2
      go_region_law (refine step_copy_splice rfl (.tmp 41) (.tmp 44) 22 22 rfl 9 Try.underlying22 hsz _ _ (m - k) (m - k) k m (by rfl) (by rfl) w.heap.size k _ 9 HR.out (List.replicate j (Value.string s)) (by simp; exact HJ.out) (src_of wr w.heap.size k j m s HR.out hmn2 (by omega)) (by simp; omega) (fun v hv => by rw [List.eq_of_mem_replicate hv]; rfl) w.heap.size w (below_drew HB.out) (Nat.le_refl _) ?_; intro w4 hrow4 hb4)
      have HR4 : Aside0 (RowIs w4 w.heap.size (k + j) m s) := ⟨by
        unfold RowIs
        rw [hrow4.out, rep_splice _ _ _ _ _ (by omega)]⟩
      clear hrow4
      have HB4 := Aside0.mk hb4
      clear hb4
      go_wp2
      go_roundg (m - (k + j))
      case measure => omega
      case rel => exact ⟨k + j, by have : Nat.min 1 m ≤ 1 := Nat.min_le_left _ _; omega, by omega, by omega, by simp [goInt]; rw [IntKind.wrap_i64]; omega, HR4, HB4⟩
    · have hk4 : k = m := by omega
      subst hk4
      go_wp2
      go_ret
      exact ⟨_, rfl, Nat.le_refl _, HR.out, HB.out⟩

theorem reps_const {α : Type} (d : Kd α) (hd : d.sz = 1) (w : World) (base : Nat) (ok : Nat → Prop) (x : α) (v : Value) (m : Nat) (h : d.M w base ok x [v]) : Reps (d.M w base ok) d.sz (List.replicate m x) (List.replicate m v) := by
  refine ⟨by simp [hd], fun i p hi => ?_⟩
  obtain ⟨h1, h2⟩ := List.getElem?_eq_some_iff.1 hi
  simp at h1 h2
  subst h2
  rw [hd, Nat.mul_one, List.drop_replicate, List.take_replicate, Nat.min_eq_left (by omega)]
  exact h
theorem R_of_row (w : World) (base g m : Nat) (s : ByteArray) (hb : base ≤ g) (hm : m ≤ 1000) (h : RowIs w g m m s) : Kd.R Kd.string 9 w base (fun _ => True) (.slice (some ⟨g, 0, none⟩) m m) (List.replicate m s) := by
  unfold RowIs at h
  simp only [Nat.sub_self, List.replicate_zero, List.append_nil] at h
  have e : Kd.string.sz = 1 := rfl
  refine ⟨fun _ _ => trivial, List.replicate m (Value.string s), ⟨by rw [e]; simp, .inr ⟨g, m, _, by simp, hb, h, by simp, by simp [maxLen]; omega, by rw [e]; simp, by rw [e]; simp⟩⟩, reps_const Kd.string rfl _ _ _ _ _ _ rfl⟩
theorem repS.calls (A0 : Option Addr) (c0 : Nat) (l0 : List ByteArray) (a1 : Int) (r : List ByteArray) (w : World) (hr0 : Kd.C Kd.string w A0 l0.length l0) (hc0 : l0.length ≤ c0) (h : repS.f l0 a1 = some r) :
    Calls Try.prog 25 #[.slice A0 l0.length c0, .int .i64 a1] w fun e w' => ∃ v0_ : Value, e = .returned (v0_) ∧ Kd.R Kd.string 9 w' w.heap.size (fun _ => True) v0_ r ∧ Below w.heap.size w w' := by
  unfold repS.f at h
  by_cases h1 : l0.length = 1 ∧ 0 ≤ a1 ∧ a1 ≤ 1000
  · rw [if_pos h1] at h
    obtain ⟨hl, h0, h2⟩ := h1
    obtain ⟨m, rfl⟩ := Int.eq_ofNat_of_zero_le h0
    obtain ⟨s, rfl⟩ : ∃ s, l0 = [s] := by
      rcases l0 with _ | ⟨s, _ | _⟩ <;> simp at hl
      exact ⟨s, rfl⟩
    obtain rfl := Option.some.inj h
    obtain ⟨ad, c, rfl, _, hK, hcell⟩ := Kd.C_get hr0 ByteArray.empty 0 (by omega) (by simp)
    obtain rfl : c = [.string s] := hK
    have hc := hcell 0 _ rfl
    have ha0 : ad.add ((0 : Int).toNat * Kd.string.sz + 0) = ad := by show ad.add 0 = ad; cases ad; simp [Addr.add]
    rw [ha0] at hc
    refine (repS_walk ad c0 m s w (by omega) hc).mono ?_
    rintro e w' ⟨g, rfl, hg, hrow, hb⟩
    exact ⟨_, rfl, R_of_row w' w.heap.size g m s hg (by omega) hrow, hb⟩
  · rw [if_neg h1] at h
    exact absurd h (by simp)
end Go.Proofs.Ytdaonhgcejjlhaa.P
