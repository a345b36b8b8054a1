/- script.Text (function 22). -/
import Derived.Test.YtcnclgneldonfaaDoorHg
import Derived.Lib.ItoaLen
namespace Go.Proofs.YtcnclgneldonfaaDoor.P
open Go Go.RowKit Go.Shelf Go.Proofs.YtcnclgneldonfaaDoorW.PrintWords Go.Proofs.YtcnclgneldonfaaDoorW.PrintLast Go.Proofs.YtcnclgneldonfaaDoorW.PrintMore
attribute [local go_sem] Oper.semAt_some
set_option linter.unusedVariables false
set_option linter.unusedSimpArgs false
def joinC (l : List Int) : List UInt8 := Lib.join (l.map Lib.itoa) [44]
/-- One word. -/
def txtP (p : S26) (n : Nat) : List UInt8 :=
  if p.f0 = 2 then Lib.itoa p.f1 ++ (126 :: Lib.itoa p.f2)
  else if p.f0 = 3 then 33 :: joinC p.f3
  else if 1 < n then Lib.itoa p.f1 ++ (120 :: Lib.itoa (n : Int)) else Lib.itoa p.f1
def txtB (x : S26 × Nat) : ByteArray := ⟨(txtP x.1 x.2).toArray⟩
def textL (l : List S26) : List UInt8 := Lib.join ((runsL l).map (fun x => txtP x.1 x.2)) [32]
def smallI (n : Int) : Bool := decide (-1000000000000 ≤ n ∧ n ≤ 1000000000000)
def smallP (p : S26) : Bool := smallI p.f1 && (smallI p.f2 && (decide (p.f3.length ≤ 1000) && p.f3.all smallI))
theorem smallI_iff {n : Int} : smallI n = true ↔ -1000000000000 ≤ n ∧ n ≤ 1000000000000 := by unfold smallI; simp
theorem smallP_iff {p : S26} : smallP p = true ↔ smallI p.f1 = true ∧ smallI p.f2 = true ∧ p.f3.length ≤ 1000 ∧ p.f3.all smallI = true := by unfold smallP; simp
theorem small_len {n : Int} (h : smallI n = true) : (Lib.itoa n).length ≤ 21 := Lib.itoa_length_le n (by have := smallI_iff.1 h; omega) (by have := smallI_iff.1 h; omega)
theorem joinTail_len (sep : List UInt8) (b : Nat) : ∀ xs : List (List UInt8), (∀ x ∈ xs, x.length ≤ b) → (Lib.joinTail sep xs).length ≤ xs.length * (b + sep.length)
  | [], _ => by simp [Lib.joinTail]
  | x :: xs, h => by
    have ih := joinTail_len sep b xs (fun y hy => h y (List.mem_cons_of_mem _ hy))
    have hx := h x List.mem_cons_self
    unfold Lib.joinTail at ih ⊢
    rw [List.map_cons, List.flatten_cons, List.length_append, List.length_append, List.length_cons, Nat.add_mul]
    omega
theorem join_len (sep : List UInt8) (b : Nat) (xs : List (List UInt8)) (h : ∀ x ∈ xs, x.length ≤ b) : (Lib.join xs sep).length ≤ xs.length * (b + sep.length) := by
  cases xs with
  | nil => simp [Lib.join_nil]
  | cons x xs =>
    rw [Lib.join_cons, List.length_append, List.length_cons, Nat.add_mul]
    have h1 := joinTail_len sep b xs (fun y hy => h y (List.mem_cons_of_mem _ hy))
    have h2 := h x List.mem_cons_self
    omega
theorem joinC_len {l : List Int} (h : l.all smallI = true) (hl : l.length ≤ 1000) : (joinC l).length ≤ 22000 := by
  have := join_len [44] 21 (l.map Lib.itoa) (fun x hx => by
    obtain ⟨y, hy, rfl⟩ := List.mem_map.1 hx
    exact small_len (List.all_eq_true.1 h y hy))
  rw [List.length_map] at this
  simp only [List.length_singleton] at this
  unfold joinC
  omega
theorem txtP_len {p : S26} {n : Nat} (h : smallP p = true) (hn : n ≤ 1000000) : (txtP p n).length ≤ 22001 := by
  obtain ⟨h1, h2, h3, h4⟩ := smallP_iff.1 h
  have a1 := small_len h1
  have a2 := small_len h2
  have a3 := joinC_len h4 h3
  have a4 : (Lib.itoa (n : Int)).length ≤ 21 := Lib.itoa_length_le _ (by omega) (by omega)
  unfold txtP
  split
  · simp; omega
  · split
    · simp; omega
    · split
      · simp; omega
      · omega
theorem runsL_mem : ∀ (l : List S26) (x : S26 × Nat), x ∈ runsL l → x.1 ∈ l ∧ 1 ≤ x.2 ∧ x.2 ≤ l.length
  | [], x, h => by simp [runsL] at h
  | p :: l, x, h => by
    unfold runsL at h
    split at h
    · simp at h; subst h; simp
    · rename_i q n r e
      have ih := runsL_mem l
      rw [e] at ih
      have hq := ih (q, n) List.mem_cons_self
      split at h
      · rcases List.mem_cons.1 h with rfl | h
        · simp; omega
        · have := ih x (List.mem_cons_of_mem _ h)
          exact ⟨List.mem_cons_of_mem _ this.1, this.2.1, by rw [List.length_cons]; omega⟩
      · rcases List.mem_cons.1 h with rfl | h
        · simp
        · have := ih x h
          exact ⟨List.mem_cons_of_mem _ this.1, this.2.1, by rw [List.length_cons]; omega⟩
theorem runsL_len : ∀ l : List S26, (runsL l).length ≤ l.length
  | [] => Nat.le_refl _
  | p :: l => by
    have ih := runsL_len l
    unfold runsL
    split
    · simp
    · rename_i q n r e
      rw [e] at ih
      split
      · simp at ih ⊢; omega
      · simp at ih ⊢; omega
theorem textL_len {l : List S26} (h : ∀ p ∈ l, smallP p = true) (hl : l.length ≤ 1000) : (textL l).length ≤ 22002000 := by
  have := join_len [32] 22001 ((runsL l).map (fun x => txtP x.1 x.2)) (fun x hx => by
    obtain ⟨y, hy, rfl⟩ := List.mem_map.1 hx
    have hm := runsL_mem l y hy
    exact txtP_len (h _ hm.1) (by omega))
  rw [List.length_map] at this
  simp only [List.length_singleton] at this
  have h2 := runsL_len l
  have h3 : (runsL l).length * 22002 ≤ 1000 * 22002 := Nat.mul_le_mul_right _ (by omega)
  unfold textL
  omega
theorem keepsFrom_below {B : Nat} {W W' : World} (h : Below W.heap.size W W') : KeepsFrom B W W' :=
  ⟨h.size, fun k o _ hk _ => (h.block k (Array.getElem?_eq_some_iff.1 hk).1).trans hk⟩
theorem keepsFrom_grown {B : Nat} {X Y : World} {row : Option Nat} (h : X.grownBy Y row) (hr : ∀ r, row = some r → ∃ cells t s, X.heap[r]? = some (.cells cells t s)) : KeepsFrom B X Y :=
  ⟨h.size, fun k o _ hk ho => (h.block k (Array.getElem?_eq_some_iff.1 hk).1 (fun e => by obtain ⟨cells, t, s, hc⟩ := hr k e.symm; rw [hk] at hc; cases hc; cases ho)).trans hk⟩
theorem boxed_below' {W W' : World} {B : Nat} {t : TypeId} {v : Value} (hb : Boxed W B t v) (h : Below W.heap.size W W') : Boxed W' B t v := (h.block B hb.lt).trans hb
/-- What the loop bears: the strings so far. -/
def TI (w W0 : World) (l : List S26) (pre : List (Fin l.length × Fin (l.length + 1))) (W : World) : Prop :=
  (∃ v, Boxed W w.heap.size 47 v ∧ W.ownsRow w.heap.size 9 1 v pre.length (pre.map (fun x => Value.string (txtB (runOf l x)))) ∧ True) ∧ Kr w.heap.size (w.heap.size + 1) W0 W
theorem blk_own {X Y : World} {row : Option Nat} {g B t : Nat} {cells : Array Value} (h : X.heap[g]? = some (.cells cells t (0, 0))) (hg : X.grownBy Y row) (hr : ∀ r, row = some r → B ≤ r ∧ ∃ o : Obj, X.heap[r]? = some o ∧ o.isCells = false) : Y.heap[g]? = some (.cells cells t (0, 0)) :=
  (hg.block g (Array.getElem?_eq_some_iff.1 h).1 (fun e => by obtain ⟨_, o, ho, hc⟩ := hr g e.symm; rw [h] at ho; cases ho; cases hc)).trans h
theorem TI_own (w W0 : World) (l : List S26) (h0 : W0.heap.size = w.heap.size + 2) : OwnFrom W0.heap.size (TI w W0 l) := by
  refine OwnFrom.and (Own.from (holdsRow_own w.heap.size w.heap.size 47 9 1 (fun (pre : List (Fin l.length × Fin (l.length + 1))) => pre.length) (fun pre => pre.map (fun x => Value.string (txtB (runOf l x)))) (fun _ _ => True)) _) ?_
  rintro pre X Y row hK hg hr
  exact ⟨hK.1.grown hg (by have := hK.1.size; omega) (fun k e => by have := (hr k e).1; omega), (hg.block (w.heap.size + 1) (by have := hK.1.size; omega) (fun e => by have := (hr _ e.symm).1; omega)).trans hK.2⟩
/-- What is read of a row of picks. -/
theorem prow_of {w : World} {A : Option Addr} {l : List S26} (h : Kd.C k26 w A l.length l) : ∃ D, PRow w.heap.size w A l D ∧ ∀ i, i < l.length → (l.getD i z26).f3.length ≤ (D i).2 ∧ (Kd.int .i64).C w (D i).1 (l.getD i z26).f3.length (l.getD i z26).f3 := by
  have : ∀ i : Nat, ∃ D : Option Addr × Nat, i < l.length → (∃ ad, A = some ad ∧ ad.block < w.heap.size ∧ w.cell? (ad.add (i * 4)) = some (.int .i64 (l.getD i z26).f0) ∧ w.cell? ⟨(ad.add (i * 4)).block, (ad.add (i * 4)).off + 1, none⟩ = some (.int .i64 (l.getD i z26).f1) ∧ w.cell? ⟨(ad.add (i * 4)).block, (ad.add (i * 4)).off + 2, none⟩ = some (.int .i64 (l.getD i z26).f2) ∧ w.cell? ⟨(ad.add (i * 4)).block, (ad.add (i * 4)).off + 3, none⟩ = some (.slice D.1 (l.getD i z26).f3.length D.2)) ∧ (l.getD i z26).f3.length ≤ D.2 ∧ (Kd.int .i64).C w D.1 (l.getD i z26).f3.length (l.getD i z26).f3 := by
    intro i
    by_cases hi : i < l.length
    · obtain ⟨ad, A3, c3, e, k0, k1, k2, k3, l3, g3⟩ := at_T26 h (i : Int) (by omega) (by omega)
      rw [rd26 l i hi, ← gD l i hi, Int.toNat_natCast] at *
      have hlt := World.block_lt_of_cell? _ _ k0
      rw [add_block] at hlt
      exact ⟨(A3, c3), fun _ => ⟨⟨ad, e, hlt, k0, k1, k2, k3⟩, l3, g3⟩⟩
    · exact ⟨(none, 0), fun h => absurd h hi⟩
  obtain ⟨D, hD⟩ := Classical.axiomOfChoice this
  exact ⟨D, fun i hi => (hD i hi).1, fun i hi => (hD i hi).2⟩
theorem ba_app (a b : List UInt8) : (⟨a.toArray⟩ : ByteArray) ++ ⟨b.toArray⟩ = ⟨(a ++ b).toArray⟩ := by
  apply ByteArray.ext
  simp
theorem row_below {W W3 : World} {base e size n : Nat} {v : Value} {xs : List Value} (h : W.ownsRow base e size v n xs) (hb : Below W.heap.size W W3) : W3.ownsRow base e size v n xs := by
  cases hvb : v.ownBlock with
  | none => exact h.kept (grown_of_below hb none) (.inl hvb)
  | some k => exact h.kept (grown_of_below hb none) (.inr (by rw [hvb]; simp))
theorem join_row (v : Value) (ss : List ByteArray) (sep : ByteArray) (W : World) (base : Nat) (h : W.ownsRow base 9 1 v ss.length (ss.map Value.string)) (hN : ss.length ≤ 1000000) (hlen : (Lib.join (ss.map (·.data.toList)) sep.data.toList).length ≤ 140737488355328) :
    Calls Tryd.prog 34 #[v, .string sep] W fun e w' => e = .returned (.string ⟨(Lib.join (ss.map (·.data.toList)) sep.data.toList).toArray⟩) ∧ Below W.heap.size W w' := by
  obtain ⟨_, hr⟩ := h
  rcases hr with ⟨h1, h2⟩ | ⟨g, cap, cur, h1, h2, h3, h4, h5, h6, h7⟩
  · obtain rfl : ss = [] := List.eq_nil_of_length_eq_zero h2
    subst h1
    refine (Tryd.strings_Join_none none 0 sep W).mono ?_
    rintro e w' ⟨rfl, rfl⟩
    exact ⟨rfl, Below.refl _ _⟩
  · subst h1
    refine Tryd.strings_Join g 0 cap ss sep W (fun j x hx => ?_) (Array.getElem?_eq_some_iff.1 h3).1 (by omega) h4 hlen
    obtain ⟨hj, hx⟩ := List.getElem?_eq_some_iff.1 hx
    have := congrArg (fun y => y[j]?) h7
    rw [Nat.mul_one] at this
    simp only [List.getElem?_take, hj, if_true, List.getElem?_map, List.getElem?_eq_getElem hj, Option.map_some] at this
    rw [Nat.zero_add]
    rw [blk_cell h3 j, ← hx]
    simpa using this
/-- The last region of the loop's body: out = append(out, w). -/
def rg18 : Code := .region 18
          #[{ dst := some 55, op := Op.load 47 (Operand.tmp 3), type := 47, pos := "script.go:120", after := #[],
              guard := none },
            { dst := some 56, op := Op.move (Operand.tmp 6), type := 9, pos := "script.go:120", after := #[],
              guard := none },
            { dst := some 57, op := Op.buildSlice 47 1 #[(0, Operand.tmp 56)], type := 47, pos := "script.go:120",
              after := #[{ on := 1, ground := Ground.data }], guard := none },
            { dst := some 58,
              op :=
                Op.call
                  { callee := Callee.builtin Builtin.append, args := #[Operand.tmp 55, Operand.tmp 57],
                    argTypes := #[47, 47] },
              type := 47, pos := "script.go:120",
              after := #[{ on := 0, ground := Ground.data }, { on := 2, ground := Ground.data }], guard := none },
            { dst := none, op := Op.store 47 (Operand.tmp 3) (Operand.tmp 58), type := 0, pos := "script.go:120",
              after :=
                #[{ on := 3, ground := Ground.data }, { on := 3, ground := Ground.chain },
                  { on := 0, ground := Ground.phase }, { on := 1, ground := Ground.phase },
                  { on := 2, ground := Ground.phase }, { on := 3, ground := Ground.phase }],
              guard := none }]
          false
set_option maxRecDepth 100000 in
set_option maxHeartbeats 4000000 in
theorem text_end (F : Fence) (lp : Nat) (w W0 W W3 : World) (A A3 : Option Addr) (c c3 n3 Bx m : Nat) (l : List S26) (hl : l.length ≤ 1000) (pre : List (Fin l.length × Fin (l.length + 1))) (x : Fin l.length × Fin (l.length + 1)) (hlt : pre.length < l.length) (hsz : W0.heap.size = w.heap.size + 2) (f0 f1 f2 : Int) (s : List UInt8) (hs : txtB (runOf l x) = ⟨s.toArray⟩)
    (hT : TI w W0 l pre W) (hbS : Boxed W0 (w.heap.size + 1) 27 (.slice A l.length c)) (hb3 : Below W.heap.size W W3) (x7 x8 x9 x14 x15 x16 x17 x18 x19 x20 x21 x22 x23 x24 x25 x26 x27 x28 x29 x30 x31 x32 x33 x34 x35 x36 x37 x38 x39 x40 x41 x42 x43 x44 x45 x46 x47 x48 x49 x50 x51 x52 x53 x54 : Value) :
    rg18.wpIn (F.inRound lp) (6 - 1 - 1) Tryd.prog (Exit.inBlock 1 (ownPostG W0.heap.size (Kr w.heap.size (w.heap.size + 1)) (TI w W0 l) (fun c pre W => False) (pre ++ [x]) W)) { tmps := #[.slice A l.length c, undef, .string ⟨#[]⟩, .pointer (some ⟨w.heap.size, 0, none⟩), .pointer (some ⟨Bx, 0, none⟩), .int .i64 (m : Int), .string ⟨s.toArray⟩, x7, x8, x9, .slice A l.length c, .func (.func 42) #[] #[.pointer (some ⟨w.heap.size + 1, 0, none⟩)], .agg #[.int .i64 f0, .int .i64 f1, .int .i64 f2, .slice A3 n3 c3], .int .i64 (m : Int), x14, x15, x16, x17, x18, x19, x20, x21, x22, x23, x24, x25, x26, x27, x28, x29, x30, x31, x32, x33, x34, x35, x36, x37, x38, x39, x40, x41, x42, x43, x44, x45, x46, x47, x48, x49, x50, x51, x52, x53, x54, undef, undef, undef, undef, undef, undef], defers := [] } W3 := by
  obtain ⟨⟨v, hv, hrow, -⟩, hK1⟩ := hT
  have hsW := hK1.1.size
  have hs3 := hb3.size
  have hv3 := boxed_below' hv hb3
  have hbS3 : Boxed W3 (w.heap.size + 1) 27 (.slice A l.length c) := boxed_below' (hK1.2.trans hbS) hb3
  have hbSW : Boxed W (w.heap.size + 1) 27 (.slice A l.length c) := hK1.2.trans hbS
  have hrow3 : W3.ownsRow w.heap.size 9 1 v pre.length (pre.map (fun x => Value.string (txtB (runOf l x)))) := by
    cases hvb : v.ownBlock with
    | none => exact hrow.kept (grown_of_below hb3 none) (.inl hvb)
    | some k => exact hrow.kept (grown_of_below hb3 none) (.inr (by rw [hvb]; simp))
  have hc3 := hv3.cell
  have hf3 := hv3.frozen
  obtain ⟨i0, hi, hz0, hz1, hz2⟩ : ∃ i0, Tryd.prog.info? 9 = some i0 ∧ i0.zero = some (.string ⟨#[]⟩) ∧ i0.size = 1 ∧ i0.bytes = 16 := by
    obtain ⟨i0, hi, hzz⟩ := Option.map_eq_some_iff.1 info9
    simp only [Prod.mk.injEq] at hzz
    exact ⟨i0, hi, hzz.1, hzz.2.1, hzz.2.2⟩
  have HT := Aside0.mk (And.intro hs (And.intro hb3 (And.intro hbS3 (And.intro hbSW hK1))))
  clear hs hb3 hbS3 hbSW hK1 hbS hv hrow
  unfold rg18
  gi_wp2_with (gi_at_builtin; refine wpListIn_append_own _ rfl _ _ 47 rfl w.heap.size 9 i0 (.string ⟨#[]⟩) 1 16 Tryd.underlying47 hi hz0 hz1 hz2 rfl (by decide) _ _ _ rfl (hrow3.alloc _) ⟨W3.heap.size, 0, none⟩ 1 1 [.string ⟨s.toArray⟩] rfl rfl (cell_one_new _ _ _) (by simp [Value.oneCell']) (by simp only [maxLen]; omega) (by omega) (by simp; omega) ?_; intro v' w1 hown' hgrow _; obtain ⟨g', cap', rfl⟩ := ownsRow_succ hown'; obtain ⟨hv1, hv2, hr2, hk2, hb2⟩ := hv3.appended (by decide) hrow3 (by omega) (Nat.le_refl _) hown' hgrow; have hcc1 := hv1.cell; have hff1 := hv1.frozen)
  have hbF := (Boxed.other (B' := w.heap.size) ((HT.out.2.2.1.alloc _).kept hgrow (HT.out.2.2.1.not_row (by decide) hrow3)) (by omega) (Value.slice (some { block := g', off := 0 }) (pre.length + 1) cap'))
  obtain ⟨hs, hb3, hbS3, hbSW, hK1⟩ := HT.out
  have hle : w.heap.size ≤ W.heap.size := by omega
  have hKr : Kr w.heap.size (w.heap.size + 1) W _ := ⟨(hb3.mono hle).trans hb2, hbF.trans hbSW.symm⟩
  refine ⟨(keepsFrom_below hb3).trans (hk2.from _), hKr, ⟨_, hv2, ?_, trivial⟩, hK1.trans hKr⟩
  rw [List.length_append, List.map_append, List.map_singleton, hs]
  exact hr2
set_option maxRecDepth 100000 in
set_option maxHeartbeats 16000000 in
theorem text_in (F : Fence) (h22 : F.fn 22) (h32 : F.fn 32) (h33 : F.fn 33) (h34 : F.fn 34) (h42 : F.fn 42) (hro : F.round = none) (hcall : ∀ (n : Nat) (f : FuncId) (args : Array Value) (X : World) (R : Ending → World → Prop), Calls Tryd.prog f args X R → CallsIn F n Tryd.prog f args X R) (A : Option Addr) (c : Nat) (l : List S26) (w : World) (hr : Kd.C k26 w A l.length l) (hs : ∀ p ∈ l, smallP p = true) (hl : l.length ≤ 1000) (hLd : Laid w) :
    CallsIn F 6 Tryd.prog 22 #[.slice A l.length c] w fun e W' => e = .returned (.string ⟨(textL l).toArray⟩) ∧ Below w.heap.size w W' := by
  obtain ⟨D, hPR, hPF⟩ := prow_of hr
  have HPF := Aside0.mk hPF
  have HS := Aside0.mk hs
  have HLD := Aside0.mk hLd
  clear hr hPF hs hLd
  refine callsIn_of_wp_marks Tryd.func22 rfl h22 ?_ hro
  simp only [Tryd.ntmps22, List.size_toArray, List.length_cons, List.length_nil, Nat.reduceAdd, Nat.reduceSub, Array.replicate_succ, Array.replicate_zero, List.push_toArray, List.append_toArray, List.nil_append, List.cons_append]
  gi_wp2_with (gi_at_call 32; refine (runs_call F 5 h32 hro _ _ _ _).mono ?_; rintro e w' ⟨rfl, rfl⟩)
  obtain ⟨W0, hW0⟩ : ∃ W0, ((w.alloc (.cells #[.slice none 0 0] 47)).alloc (.cells #[.slice A l.length c] 27)) = W0 := ⟨_, rfl⟩
  have hB0 : Below w.heap.size w W0 := by rw [← hW0]; exact below_alloc (below_alloc (Below.refl _ _) _) _
  have hsz : W0.heap.size = w.heap.size + 2 := by rw [← hW0]; simp
  have bO : Boxed W0 w.heap.size 47 (.slice none 0 0) := by rw [← hW0]; exact (Boxed.new w 47 (.slice none 0 0)).alloc _
  have bS : Boxed W0 (w.heap.size + 1) 27 (.slice A l.length c) := by
    rw [← hW0]
    have := Boxed.new (w.alloc (.cells #[.slice none 0 0] 47)) 27 (.slice A l.length c)
    simpa only [World.size_alloc] using this
  rw [hW0]
  clear hW0
  have hPR0 := hPR.below hB0
  refine wpIn_rangeFunc_ownH hro (by decide) (gf := 42) (lb := #[.pointer (some ⟨w.heap.size + 1, 0, none⟩)]) rfl h42 (enters_of Tryd.func42 (by kernel_rfl) rfl)
    (runs_stops F 5 h42 hro (by decide) (w.heap.size + 1) w.heap.size c A l D (by omega) W0 (by omega) (by omega) bS hPR0) Kr.trans (Kr.put (by omega) (by omega)) (Below.refl _ _) (fun _ => rfl)
    (TI w W0 l) (fun c pre W => False) (TI_own w W0 l hsz) (fun c _ _ _ _ hs _ _ => hs)
    ⟨⟨_, bO, World.ownsRow_nil _ _ _ _, trivial⟩, Kr.refl _ _ _⟩
    (fun x a' W => ∃ Bx, W0.heap.size ≤ Bx ∧ W.heap[Bx]? = some (.cells #[.int .i64 (l.getD x.1.1 z26).f0, .int .i64 (l.getD x.1.1 z26).f1, .int .i64 (l.getD x.1.1 z26).f2, .slice (D x.1.1).1 (l.getD x.1.1 z26).f3.length (D x.1.1).2] 26 (0, 0)) ∧ a' = { tmps := #[.slice A l.length c, undef, .string ⟨#[]⟩, .pointer (some ⟨w.heap.size, 0, none⟩), .pointer (some ⟨Bx, 0, none⟩), .int .i64 (x.2.1 : Int), undef, undef, undef, undef, .slice A l.length c, .func (.func 42) #[] #[.pointer (some ⟨w.heap.size + 1, 0, none⟩)], .agg #[.int .i64 (l.getD x.1.1 z26).f0, .int .i64 (l.getD x.1.1 z26).f1, .int .i64 (l.getD x.1.1 z26).f2, .slice (D x.1.1).1 (l.getD x.1.1 z26).f3.length (D x.1.1).2], .int .i64 (x.2.1 : Int), undef, undef, undef, undef, undef, undef, undef, undef, undef, undef, undef, undef, undef, undef, undef, undef, undef, undef, undef, undef, undef, undef, undef, undef, undef, undef, undef, undef, undef, undef, undef, undef, undef, undef, undef, undef, undef, undef, undef, undef, undef, undef, undef, undef, undef, undef, undef], defers := [] })
    (fun x a' _ X Y row hs hg hr => by obtain ⟨Bx, e1, e2, e3⟩ := hs; exact ⟨Bx, e1, blk_own e2 hg hr, e3⟩)
    ?assign ?body ?done ?stop
  case assign =>
    rintro lp pre x W K ⟨hp, hB1⟩ hK
    have hsW := hB1.1.size
    have HP := Aside0.mk hp
    have HK := Aside0.mk hK
    have HB1 := Aside0.mk hB1
    unfold encR
    obtain ⟨f0, f1, f2, A3, n3, c3, e0⟩ : ∃ f0 f1 f2 A3 n3 c3, (l.getD x.1.1 z26).f0 = f0 ∧ (l.getD x.1.1 z26).f1 = f1 ∧ (l.getD x.1.1 z26).f2 = f2 ∧ (D x.1.1).1 = A3 ∧ (l.getD x.1.1 z26).f3.length = n3 ∧ (D x.1.1).2 = c3 := ⟨_, _, _, _, _, _, rfl, rfl, rfl, rfl, rfl, rfl⟩
    obtain ⟨e0, e1, e2, e3, e4, e5⟩ := e0
    simp only [e0, e1, e2, e3, e4, e5] at hK ⊢
    clear HK
    have HK := Aside0.mk hK
    clear hp hK hB1 e0 e1 e2 e3 e4 e5
    gi_wp2
    exact HK.out _ _ ((KeepsOthers.alloc _ _).from _) ⟨(Below.refl _ W).alloc (by omega) _, Below.heap_alloc W _ _ (by omega)⟩ ((TI_own w W0 l hsz).alloc _ ⟨HP.out, HB1.out⟩) ⟨W.heap.size, hsW, World.alloc_heap_new W _, rfl⟩
  case body =>
    rintro lp pre x a' W hlp ⟨r, hr⟩ ⟨⟨v, hv, hrow, -⟩, hK1⟩ ⟨Bx, hBx, bX, rfl⟩ hlt
    have hsW := hK1.1.size
    have hBw : Below w.heap.size w W := hB0.trans hK1.1
    have hxl := x.1.2
    have hm : x.2.1 ≤ 1000 := by have := x.2.2; omega
    obtain ⟨hc3, hC3⟩ := HPF.out x.1.1 hxl
    have hC3' := Aside0.mk (Kd.C_below hC3 hBw)
    have hsm : smallP (l.getD x.1.1 z26) = true := HS.out _ (by rw [gD l _ hxl]; exact List.getElem_mem _)
    have hbS : Boxed W (w.heap.size + 1) 27 (.slice A l.length c) := hK1.2.trans bS
    have HTX : Aside0 (∀ s, txtP (l.getD x.1.1 z26) x.2.1 = s → txtB (runOf l x) = ⟨s.toArray⟩) := ⟨fun s e => by rw [← e]; rfl⟩
    have HR0 : Aside0 (W.ownsRow w.heap.size 9 1 v pre.length (pre.map (fun x => Value.string (txtB (runOf l x)))) ∧ Boxed W w.heap.size 47 v ∧ Kr w.heap.size (w.heap.size + 1) W0 W) := ⟨hrow, hv, hK1⟩
    clear hrow hv hK1 hC3 hr hlp hPR hPR0
    generalize (D x.1.1).1 = A3 at *
    generalize (D x.1.1).2 = c3 at *
    generalize l.getD x.1.1 z26 = p at *
    generalize hmm : x.2.1 = m at *
    obtain ⟨hs1, hs2, hs3, hs4⟩ := smallP_iff.1 hsm
    have hi1 := smallI_iff.1 hs1
    have hi2 := smallI_iff.1 hs2
    obtain ⟨⟨q0, q1, q2, q3⟩, z0, z1, z2, z3⟩ := blk4 bX
    have HBX := Aside0.mk bX
    clear bX hs1 hs2
    have HB := Aside0.mk (And.intro HR0.out hbS)
    clear HR0 hbS
    have HTI : Aside0 (TI w W0 l pre W) := ⟨⟨⟨v, HB.out.1.2.1, HB.out.1.1, trivial⟩, HB.out.1.2.2⟩⟩
    clear HB
    have HBW := Aside0.mk hBw
    clear hBw
    have hj3 : (joinC p.f3).length ≤ 22000 := joinC_len hs4 hs3
    gi_wp2
    rename_i KX hKX K2 hK2
    rw [show Code.region 18 _ false = rg18 from rfl] at hKX
    refine (CallsIn.inRound lp (hcall _ _ _ _ _ (itoa_any p.f1 (by omega) (by omega) _ (HLD.out.below HBW.out)))).mono ?_
    rintro e w2 ⟨rfl, hb2⟩
    have HB2 := Aside0.mk hb2
    obtain ⟨⟨q0', q1', q2', q3'⟩, z0', z1', z2', z3'⟩ := blk4 (blk_below HBX.out hb2)
    have hs2 := hb2.size
    clear hb2
    have hl1 : (Lib.itoa p.f1).length ≤ 21 := Lib.itoa_length_le _ (by omega) (by omega)
    by_cases h2 : p.f0 = 2
    · have hT : txtP p m = Lib.itoa p.f1 ++ (126 :: Lib.itoa p.f2) := by unfold txtP; rw [if_pos h2]
      have h2d : (p.f0 == 2) = true := by simpa using h2
      have HT := Aside0.mk hT
      clear hT
      have hl2 : (Lib.itoa p.f2).length ≤ 21 := Lib.itoa_length_le _ (by omega) (by omega)
      gi_wp2_with (gi_at_call 33; refine (CallsIn.inRound lp (hcall _ _ _ _ _ (itoa_any p.f2 (by omega) (by omega) _ (HLD.out.below (HBW.out.trans (HB2.out.mono (by omega))))))).mono ?_; rintro e w3 ⟨rfl, hb3⟩)
      rw [show (⟨#[126]⟩ : ByteArray) = ⟨[126].toArray⟩ from rfl, ba_app, ba_app]
      have hbb := HB2.out.trans (hb3.mono hs2)
      exact text_end F lp w W0 W w3 A A3 c c3 p.f3.length Bx m l hl pre x hlt hsz 2 p.f1 p.f2 _ (HTX.out _ HT.out) HTI.out bS (hbb) _ _ _ _ _ _ _ _ _ _ _ _ _ _ _ _ _ _ _ _ _ _ _ _ _ _ _ _ _ _ _ _ _ _ _ _ _ _ _ _ _ _ _ _
    · have h2d : (p.f0 == 2) = false := by simpa using h2
      by_cases h3 : p.f0 = 3
      · have h3d : (p.f0 == 3) = true := by simpa using h3
        have hT : txtP p m = 33 :: joinC p.f3 := by unfold txtP; rw [if_neg h2, if_pos h3]
        have HT := Aside0.mk hT
        clear hT
        have hn3 : p.f3.length ≤ 1000 := hs3
        have HF3 := Aside0.mk (Kd.C_below hC3'.out HB2.out)
        gi_wp2
        gi_loopw [7, 9, 34] (fun v7 v9 v34 wr => ∃ i : Nat, i ≤ p.f3.length ∧ v34 = .int .i64 i ∧ Aside0 (wr.ownsRow w2.heap.size 9 1 v7 i ((p.f3.take i).map (fun n => Value.string ⟨(Lib.itoa n).toArray⟩))) ∧ Aside0 (Below w2.heap.size w2 wr))
          (fun _ _ v34 _ => p.f3.length - (intOf v34).toNat)
        case atStart => exact ⟨0, Nat.zero_le _, rfl, ⟨World.ownsRow_nil _ _ _ _⟩, ⟨Below.refl _ _⟩⟩
        case round =>
          obtain ⟨i, hi, rfl, HR, HB⟩ := hrel
          by_cases hil : i < p.f3.length
          · have hili : (i : Int) < (p.f3.length : Int) := by omega
            obtain ⟨ad, rfl, hc⟩ := Kd.at_int (Kd.C_below HF3.out HB.out) (i : Int) (by omega) hili
            have hrd : rd p.f3 (i : Int) = p.f3[i] := by simp [rd, List.getD_eq_getElem?_getD, hil]
            rw [hrd, Int.toNat_natCast] at hc
            have hsi : smallI p.f3[i] = true := List.all_eq_true.1 hs4 _ (List.getElem_mem _)
            have hsi' := smallI_iff.1 hsi
            have hTK : Aside0 ((p.f3.take (i + 1)).map (fun n => Value.string ⟨(Lib.itoa n).toArray⟩) = (p.f3.take i).map (fun n => Value.string ⟨(Lib.itoa n).toArray⟩) ++ [Value.string ⟨(Lib.itoa p.f3[i]).toArray⟩]) := ⟨by rw [List.take_succ_eq_append_getElem hil, List.map_append]; rfl⟩
            clear hsi hrd
            generalize p.f3[i] = n at *
            have hzw := HB.out.size
            have HLW : Aside0 (Laid wr) := ⟨HLD.out.below (HBW.out.trans ((HB2.out.mono (by omega)).trans (HB.out.mono (by omega))))⟩
            obtain ⟨i0, hi0, hz0, hz1, hz2⟩ : ∃ i0, Tryd.prog.info? 9 = some i0 ∧ i0.zero = some (.string ⟨#[]⟩) ∧ i0.size = 1 ∧ i0.bytes = 16 := by
              obtain ⟨i0, hi, hzz⟩ := Option.map_eq_some_iff.1 info9
              simp only [Prod.mk.injEq] at hzz
              exact ⟨i0, hi, hzz.1, hzz.2.1, hzz.2.2⟩
            gi_wp2_with (first
              | (gi_at_call 33; refine (CallsIn.inRound lp (hcall _ _ _ _ _ (itoa_any n (by omega) (by omega) _ HLW.out))).mono ?_; rintro e w4 ⟨rfl, hb4⟩; have HR4 := row_below HR.out hb4; have hz4 := hb4.size)
              | (gi_at_builtin; refine wpListIn_append_own _ rfl _ _ 47 rfl w2.heap.size 9 i0 (.string ⟨#[]⟩) 1 16 Tryd.underlying47 hi0 hz0 hz1 hz2 rfl (by decide) _ _ _ rfl (HR4.alloc _) ⟨w4.heap.size, 0, none⟩ 1 1 [.string ⟨(Lib.itoa n).toArray⟩] rfl rfl (cell_one_new _ _ _) (by simp [Value.oneCell']) (by simp only [maxLen]; omega) (by omega) (by simp; omega) ?_; intro v' w1 hown' hgrow _))
            have hrow' : (wr.heap.size ≤ w4.heap.size) := hz4
            refine ⟨⟨i + 1, by omega, by go_num, ⟨by rw [hTK.out]; exact hown'⟩, ⟨((HB.out.trans (hb4.mono hzw)).alloc (by omega) _).grown hgrow (by simp; omega) (own_base HR4)⟩⟩, by simp [intOf]; omega⟩
          · obtain rfl : i = p.f3.length := by omega
            have hili : ¬ (p.f3.length : Int) < (p.f3.length : Int) := by omega
            have hR := HR.out
            rw [List.take_length] at hR
            have hjj : Lib.join ((p.f3.map (fun n => (⟨(Lib.itoa n).toArray⟩ : ByteArray))).map (·.data.toList)) (⟨#[44]⟩ : ByteArray).data.toList = joinC p.f3 := by
              unfold joinC
              rw [List.map_map]
              rfl
            have hlen : (p.f3.map (fun n => (⟨(Lib.itoa n).toArray⟩ : ByteArray))).length = p.f3.length := List.length_map _
            have hJ := join_row u7 (p.f3.map (fun n => (⟨(Lib.itoa n).toArray⟩ : ByteArray))) ⟨#[44]⟩ wr w2.heap.size (by rw [hlen, List.map_map]; exact hR) (by omega) (by rw [hjj]; omega)
            rw [hjj] at hJ
            have HJ := Aside0.mk (CallsIn.inRound lp (hcall (6 - 1 - 1 - 1) _ _ _ _ hJ))
            clear hJ hjj hlen hR HR
            gi_wp2_with (gi_at_call 34; refine HJ.out.mono ?_; rintro e w5 ⟨rfl, hb5⟩)
            rw [show (⟨#[33]⟩ : ByteArray) = ⟨[33].toArray⟩ from rfl, ba_app]
            have hbb := (HB2.out.trans (HB.out.mono hs2)).trans (hb5.mono (by have := HB.out.size; omega))
            exact text_end F lp w W0 W w5 A A3 c c3 p.f3.length Bx m l hl pre x hlt hsz 3 p.f1 p.f2 _ (HTX.out _ HT.out) HTI.out bS hbb _ _ _ _ _ _ _ _ _ _ _ _ _ _ _ _ _ _ _ _ _ _ _ _ _ _ _ _ _ _ _ _ _ _ _ _ _ _ _ _ _ _ _ _
      · have h3d : (p.f0 == 3) = false := by simpa using h3
        by_cases hm1 : 1 < m
        · have hT : txtP p m = Lib.itoa p.f1 ++ (120 :: Lib.itoa (m : Int)) := by unfold txtP; rw [if_neg h2, if_neg h3, if_pos hm1]
          have HT := Aside0.mk hT
          clear hT
          have hlm : (Lib.itoa (m : Int)).length ≤ 21 := Lib.itoa_length_le _ (by omega) (by omega)
          have hmi : (m : Int) > 1 := by omega
          gi_wp2_with (gi_at_call 33; refine (CallsIn.inRound lp (hcall _ _ _ _ _ (itoa_any (m : Int) (by omega) (by omega) _ (HLD.out.below (HBW.out.trans (HB2.out.mono (by omega))))))).mono ?_; rintro e w3 ⟨rfl, hb3⟩)
          rw [show (⟨#[120]⟩ : ByteArray) = ⟨[120].toArray⟩ from rfl, ba_app, ba_app]
          have hbb := HB2.out.trans (hb3.mono hs2)
          exact text_end F lp w W0 W w3 A A3 c c3 p.f3.length Bx m l hl pre x hlt hsz p.f0 p.f1 p.f2 _ (HTX.out _ HT.out) HTI.out bS (hbb) _ _ _ _ _ _ _ _ _ _ _ _ _ _ _ _ _ _ _ _ _ _ _ _ _ _ _ _ _ _ _ _ _ _ _ _ _ _ _ _ _ _ _ _
        · have hT : txtP p m = Lib.itoa p.f1 := by unfold txtP; rw [if_neg h2, if_neg h3, if_neg hm1]
          have HT := Aside0.mk hT
          clear hT
          have hmi : ¬ (m : Int) > 1 := by omega
          gi_wp2
          exact text_end F lp w W0 W w2 A A3 c c3 p.f3.length Bx m l hl pre x hlt hsz p.f0 p.f1 p.f2 _ (HTX.out _ HT.out) HTI.out bS (HB2.out) _ _ _ _ _ _ _ _ _ _ _ _ _ _ _ _ _ _ _ _ _ _ _ _ _ _ _ _ _ _ _ _ _ _ _ _ _ _ _ _ _ _ _ _
  case stop =>
    rintro D1 cc pre V hD hpre hx hK
    exact hx.elim
  case done =>
    rintro D1 ys V hD hys ⟨⟨v, hv, hrow, -⟩, hK1⟩ hK
    have hc := hv.cell
    have hlen : (ys.map (fun x => txtB (runOf l x))).length = ys.length := List.length_map _
    have hyl : ys.length ≤ l.length := by
      have := congrArg List.length hys
      rw [List.length_map] at this
      have := runsL_len l
      omega
    have hjj : Lib.join ((ys.map (fun x => txtB (runOf l x))).map (·.data.toList)) (⟨#[32]⟩ : ByteArray).data.toList = textL l := by
      unfold textL
      rw [← hys, List.map_map, List.map_map]
      rfl
    have hJ := join_row v (ys.map (fun x => txtB (runOf l x))) ⟨#[32]⟩ V w.heap.size (by rw [hlen, List.map_map]; exact hrow) (by omega) (by rw [hjj]; have := textL_len HS.out hl; omega)
    rw [hjj] at hJ
    have HJ := Aside0.mk (hcall 5 _ _ _ _ hJ)
    have HK1 := Aside0.mk hK1
    have HKD := Aside0.mk hK
    clear hrow hjj hJ hK1 hK hys
    gi_wp2_with (gi_at_call 34; refine HJ.out.mono ?_; rintro e w5 ⟨rfl, hb5⟩)
    have hK5 : w5.heap[D1]? = some (.deferred (some [])) := (hb5.block D1 (Array.getElem?_eq_some_iff.1 HKD.out).1).trans HKD.out
    refine ⟨by simp, .inl ⟨_, _, rfl, run_takeDeferred hK5, ?_⟩⟩
    have hz := HK1.out.1.size
    exact ⟨_, results_tmp rfl _ _ _, rfl, ((hB0.trans HK1.out.1).trans (hb5.mono (by omega))).trans (belowK_b (w := w) (Nat.le_refl _) w5 D1 _ _ (by omega) hK5 rfl rfl)⟩
def sText.f (l : List S26) : Option ByteArray := if l.length ≤ 1000 ∧ l.all smallP = true then some ⟨(textL l).toArray⟩ else none
theorem sText.calls (A0 : Option Addr) (c0 : Nat) (l0 : List S26) (r : ByteArray) (w : World) (hr0 : Kd.C k26 w A0 l0.length l0) (hc0 : l0.length ≤ c0) (h : sText.f l0 = some r) (hL : Laid w) :
    Calls Tryd.prog 22 #[.slice A0 l0.length c0] w fun e w' => e = .returned (.string r) ∧ Below w.heap.size w w' := by
  unfold sText.f at h
  split at h
  · rename_i hs
    rw [← Option.some.inj h]
    exact callsIn_wide.1 (text_in Fence.wide trivial trivial trivial trivial trivial rfl (fun n f args X R h => callsIn_wide.2 h) A0 c0 l0 w hr0 (List.all_eq_true.1 hs.2) hs.1 hL)
  · cases h
end Go.Proofs.YtcnclgneldonfaaDoor.P
