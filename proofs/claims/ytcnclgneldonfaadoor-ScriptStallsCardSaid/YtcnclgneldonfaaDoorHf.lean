/- script.Parse. -/
import Derived.Test.YtcnclgneldonfaaDoorHe
namespace Go.Proofs.YtcnclgneldonfaaDoor.P
open Go Go.RowKit Go.Proofs.YtcnclgneldonfaaDoorW.PrintWords Go.Proofs.YtcnclgneldonfaaDoorW.PrintLast Go.Proofs.YtcnclgneldonfaaDoorW.PrintMore
set_option linter.unusedVariables false
set_option linter.unusedSimpArgs false
def isSp (x : Nat) : Bool := x == 32 || (x == 9 || x == 10)
theorem pred_walk (x : Nat) (hx : x ≤ 1114111) (w : World) : Calls Tryd.prog 26 #[.int .i32 (x : Int)] w fun e w' => e = .returned (.bool (isSp x)) ∧ w' = w := by
  by_cases h1 : x = 32
  · subst h1
    go_enter Tryd.func26, Tryd.ntmps26
    go_wp2
    go_ret
    exact ⟨rfl, rfl⟩
  · have h1i : ¬ (x : Int) = 32 := by omega
    by_cases h2 : x = 9
    · subst h2
      go_enter Tryd.func26, Tryd.ntmps26
      go_wp2
      go_ret
      exact ⟨rfl, rfl⟩
    · have h2i : ¬ (x : Int) = 9 := by omega
      by_cases h3 : x = 10
      · subst h3
        go_enter Tryd.func26, Tryd.ntmps26
        go_wp2
        go_ret
        exact ⟨rfl, rfl⟩
      · have h3i : ¬ (x : Int) = 10 := by omega
        have hR : isSp x = false := by unfold isSp; simp [h1, h2, h3]
        rw [hR]
        go_enter Tryd.func26, Tryd.ntmps26
        go_wp2
        all_goals go_ret
        all_goals simp [h1i, h2i, h3i]
theorem spans_len (p : Nat → Bool) (s : ByteArray) : ∀ (f pos : Nat) (st : Option Nat) (acc : List (Nat × Nat)), (Lib.spansFromP p s f pos st acc).1.length ≤ acc.length + f
  | 0, _, _, acc => Nat.le_refl _
  | f + 1, pos, st, acc => by
    unfold Lib.spansFromP
    split
    · split
      · split
        · rename_i a_
          have := spans_len p s f (pos + (Utf8.decode s pos).2) none (acc ++ [(a_, pos)])
          rw [List.length_append, List.length_singleton] at this
          exact Nat.le_trans this (by omega)
        · exact Nat.le_trans (spans_len p s f _ _ acc) (by omega)
      · split
        · exact Nat.le_trans (spans_len p s f _ _ acc) (by omega)
        · exact Nat.le_trans (spans_len p s f _ _ acc) (by omega)
    · exact Nat.le_add_right _ _
theorem fields_len (p : Nat → Bool) (s : ByteArray) : (Lib.goFieldsP p s).length ≤ s.size + 1 := by
  unfold Lib.goFieldsP Lib.spansOfP
  rw [List.length_map]
  have h := spans_len p s s.size 0 none []
  unfold Lib.closeSpans
  split
  · rw [List.length_append, List.length_singleton]
    simp at h
    omega
  · simp at h
    omega
theorem fields_size (p : Nat → Bool) (s : ByteArray) : ∀ x ∈ Lib.goFieldsP p s, x.size ≤ s.size := by
  unfold Lib.goFieldsP
  intro x hx
  obtain ⟨y, _, rfl⟩ := List.mem_map.1 hx
  rw [ByteArray.size_extract]
  omega
theorem box_put {W : World} {g : Nat} {a0 b0 c0 d0 : Value} (h : W.heap[g]? = some (.cells #[a0, b0, c0, d0] 26 (0, 0))) (a b c d : Value) :
    ((((W.setCell ⟨g, 0, none⟩ a).setCell ⟨g, 1, none⟩ b).setCell ⟨g, 2, none⟩ c).setCell ⟨g, 3, none⟩ d).heap[g]? = some (.cells #[a, b, c, d] 26 (0, 0)) := blk_put (blk_put (blk_put (blk_put h 0 a rfl) 1 b rfl) 2 c rfl) 3 d rfl
theorem box_other {W : World} {bx g' : Nat} {o : Obj} (h : W.heap[g']? = some o) (hne : g' ≠ bx) (a b c d : Value) :
    ((((W.setCell ⟨bx, 0, none⟩ a).setCell ⟨bx, 1, none⟩ b).setCell ⟨bx, 2, none⟩ c).setCell ⟨bx, 3, none⟩ d).heap[g']? = some o := by
  rw [Below.heap_setCell _ _ _ _ hne, Below.heap_setCell _ _ _ _ hne, Below.heap_setCell _ _ _ _ hne, Below.heap_setCell _ _ _ _ hne]
  exact h
theorem box_below {B bx : Nat} {w W : World} (h : Below B w W) (hg : B ≤ bx) (a b c d : Value) : Below B w ((((W.setCell ⟨bx, 0, none⟩ a).setCell ⟨bx, 1, none⟩ b).setCell ⟨bx, 2, none⟩ c).setCell ⟨bx, 3, none⟩ d) :=
  (((h.setCell hg _).setCell hg _).setCell hg _).setCell hg _
theorem F_box {W : World} {bx n : Nat} {ok : Nat → Prop} {A : Option Addr} {xs : List Int} (h : Kd.F (Kd.int .i64) W ok A n xs) (hne : ∀ k, ok k → k ≠ bx) (a b c d : Value) :
    Kd.F (Kd.int .i64) ((((W.setCell ⟨bx, 0, none⟩ a).setCell ⟨bx, 1, none⟩ b).setCell ⟨bx, 2, none⟩ c).setCell ⟨bx, 3, none⟩ d) ok A n xs :=
  Kd.F_far (Kd.F_far (Kd.F_far (Kd.F_far h hne a) hne b) hne c) hne d
theorem N_kblk {k : Nat} {W : World} {v : Value} {xs : List S26} {base : Nat} {ok : Nat → Prop} (h : Kd.N k26 26 W base ok v xs) (hk : W.heap.size ≤ k) : some k ≠ v.ownBlock := fun e => by
  have := Kd.N_lt h k e.symm
  omega
set_option maxHeartbeats 4000000 in
set_option maxRecDepth 1000000 in
theorem parse_walk (s : ByteArray) (hs : s.size ≤ 1000000) (w : World) (hL : Laid w) :
    Calls Tryd.prog 19 #[.string s] w fun e w' => ∃ v0_ : Value, e = .returned (.tuple #[v0_, .int .i64 (parL (Lib.goFieldsP isSp s) 0 []).2]) ∧ Kd.V k26 26 w' w.heap.size (fun _ => True) v0_ (parL (Lib.goFieldsP isSp s) 0 []).1 ∧ Below w.heap.size w w' := by
  go_enter Tryd.func19, Tryd.ntmps19
  go_wp2_with fail
  have hpg : PredGrows Tryd.prog 26 #[] isSp w := fun W x hx _ => (pred_walk x hx W).mono (by rintro e w' ⟨rfl, rfl⟩; exact ⟨rfl, Below.refl _ _⟩)
  refine (Tryd.strings_FieldsFunc_grows 26 #[] (fun _ _ => by rfl) isSp s w (by omega) hpg).mono ?_
  rintro e w1 ⟨A, rfl, hA, hown, hb1⟩
  have hfl := fields_len isSp s
  have hfz := fields_size isSp s
  obtain ⟨fs, hfs⟩ : ∃ fs, Lib.goFieldsP isSp s = fs := ⟨_, rfl⟩
  rw [hfs] at hown hfl hfz ⊢
  have HFS := Aside0.mk hfs
  clear hfs
  obtain ⟨cur, hcur, hcl⟩ : ∃ cur : Array Value, w1.heap[A]? = some (.cells cur 9 (0, 0)) ∧ ∀ (j : Nat) (hj : j < fs.length), cur[j]? = some (.string fs[j]) := by
    obtain ⟨_, hr⟩ := hown
    rcases hr with ⟨h1, h2⟩ | ⟨g, cap, cur, h1, h2, h3, h4, h5, h6, h7⟩
    · simp at h1
    · injection h1 with e1 e2 e3
      injection e1 with e1
      injection e1 with e1 _ _
      subst e1
      refine ⟨cur, h3, fun j hj => ?_⟩
      have := congrArg (fun x => x[j]?) h7
      rw [Nat.mul_one] at this
      simp only [List.getElem?_take, hj, if_true, List.getElem?_map, List.getElem?_eq_getElem hj, Option.map_some] at this
      simpa using this
  have HC := Aside0.mk hcl
  have hn9 : fs.length ≤ 1000001 := by omega
  have HZ : Aside0 (∀ x ∈ fs, x.size ≤ 1000000) := ⟨fun x hx => Nat.le_trans (hfz x hx) hs⟩
  have HL := Aside0.mk (hL.below hb1)
  have hAlt : A < w1.heap.size := blk_lt hcur
  have HB1 := Aside0.mk hb1
  clear hL hown hcl hpg hfl hfz
  go_wp2
  go_loopg [4, 5, 17] fs.length (fun gg v4 v5 v17 wr => ∃ (i : Nat) (tot : Int) (out : List S26), i ≤ fs.length ∧ fs.length - i ≤ gg ∧ v17 = .int .i64 i ∧ v5 = .int .i64 tot ∧ 0 ≤ tot ∧ tot ≤ 1073741824 * (i : Int) ∧ out.length ≤ 10000 ∧ (tot ≤ 10000 → (out.length : Int) ≤ tot) ∧ Aside0 (parL (fs.drop i) tot out = parL fs 0 []) ∧ Aside0 (Kd.N k26 26 wr w1.heap.size (fun _ => True) v4 out) ∧ Aside0 (some A ≠ v4.ownBlock) ∧ Aside0 (wr.heap[A]? = some (.cells cur 9 (0, 0))) ∧ Aside0 (Below w1.heap.size w1 wr))
  case atStart => exact ⟨0, 0, [], Nat.zero_le _, by omega, rfl, rfl, by omega, by omega, by simp, by simp, ⟨rfl⟩, ⟨Kd.N_nil _ _ _ _ _⟩, ⟨by simp [Value.ownBlock]⟩, ⟨hcur⟩, ⟨Below.refl _ _⟩⟩
  case round =>
    obtain ⟨i, tot, out, hi, hg, rfl, rfl, ht0, ht1, hol, hot, HPL, HN, HNE, HBA, HB⟩ := hrel
    by_cases hlt : i < fs.length
    · have hlti : (i : Int) < (fs.length : Int) := by omega
      have k0 : wr.cell? ⟨A, i, none⟩ = some (.string fs[i]) := (blk_cell HBA.out i).trans (HC.out i hlt)
      have hd := List.drop_eq_getElem_cons hlt
      have HPC : Aside0 (parL (fs[i] :: fs.drop (i + 1)) tot out = parL fs 0 []) := ⟨by rw [← hd]; exact HPL.out⟩
      have HWZ : Aside0 (fs[i].size ≤ 1000000) := ⟨HZ.out _ (List.getElem_mem hlt)⟩
      clear hd HPL
      generalize fs[i] = wd at *
      go_wp2_with fail
      have HBX0 := Aside0.mk (blk_new wr (Obj.cells #[.int .i64 0, .int .i64 0, .int .i64 0, .slice none 0 0] 26 (0, 0)))
      obtain ⟨bx, hbx⟩ : ∃ bx, wr.heap.size = bx := ⟨_, rfl⟩
      rw [hbx] at HBX0 ⊢
      have hbs : w1.heap.size ≤ bx := by rw [← hbx]; exact HB.out.size
      have HHL := Aside0.mk (fun W (hB : Below w1.heap.size w1 W) => HL.out.below hB)
      have hwm := word_many wd
      rename_i KX hKX
      have HK : ∀ (m : Int) (p : S26) (A3 : Option Addr) (c3 : Nat) (W : World) (x2 x3 x7 x8 x12 x13 x18 x19 x20 x21 x22 x23 x24 x25 x26 x27 x28 x29 x30 x31 x32 x33 x34 x35 x36 x37 x38 x39 x40 x41 x42 x43 x44 x45 x46 x47 x48 x49 x50 x51 x52 x53 x54 x55 x56 x57 x58 x59 x60 : Value), Aside0 (wordV wd = (p, m)) → Aside0 (W.heap[bx]? = some (.cells #[.int .i64 p.f0, .int .i64 p.f1, .int .i64 p.f2, .slice A3 p.f3.length c3] 26 (0, 0))) →
          Aside0 (Kd.F (Kd.int .i64) W (fun k => some k = (Value.slice A3 p.f3.length c3).ownBlock) A3 p.f3.length p.f3) → Aside0 (p.f3.length ≤ c3) → Aside0 (∀ k, some k = (Value.slice A3 p.f3.length c3).ownBlock → bx ≤ k ∧ k < W.heap.size) → Aside0 (Below wr.heap.size wr W) → KX { tmps := #[.string s, undef, x2, x3, u4, .int .i64 tot, undef, x7, x8, .int .i64 m, .pointer (some ⟨bx, 0, none⟩), undef, x12, x13, .string s, .slice (some ⟨A, 0, none⟩) fs.length fs.length, .int .i64 fs.length, .int .i64 i, x18, x19, x20, x21, x22, x23, x24, x25, x26, x27, x28, x29, x30, x31, x32, x33, x34, x35, x36, x37, x38, x39, x40, x41, x42, x43, x44, x45, x46, x47, x48, x49, x50, x51, x52, x53, x54, x55, x56, x57, x58, x59, x60, undef, undef, undef], defers := [] } W := by
        intro m p A3 c3 W x2 x3 x7 x8 x12 x13 x18 x19 x20 x21 x22 x23 x24 x25 x26 x27 x28 x29 x30 x31 x32 x33 x34 x35 x36 x37 x38 x39 x40 x41 x42 x43 x44 x45 x46 x47 x48 x49 x50 x51 x52 x53 x54 x55 x56 x57 x58 x59 x60 HV HBX HF3 HL3 HK3 HBW
        refine hKX _ _ ?_
        clear hKX
        have hm : 0 ≤ m ∧ m ≤ 1073741824 := by rw [HV.out] at hwm; exact hwm
        have HN2 := Aside0.mk (Kd.N_below HN.out HBW.out)
        have HBA2 := Aside0.mk (blk_below HBA.out HBW.out)
        have HB2 := Aside0.mk (HB.out.trans (HBW.out.mono HB.out.size))
        have hup := HPC.out
        rw [parL_cons, HV.out] at hup
        have HUP := Aside0.mk hup
        have HVN : Aside0 (∀ k, some k = (Value.slice A3 p.f3.length c3).ownBlock → some k ≠ u4.ownBlock) := ⟨fun k hk e => by have := (HK3.out k hk).1; have := Kd.N_lt HN.out k e.symm; omega⟩
        have HXN : Aside0 (some bx ≠ u4.ownBlock) := ⟨N_kblk HN.out (by omega)⟩
        clear hup hwm HPC HV HN HBA
        obtain ⟨⟨q0, q1, q2, q3⟩, z0, z1, z2, z3⟩ := blk4 HBX.out
        by_cases hm0 : m = 0
        · subst hm0
          go_wp2
          refine bodyPost_ret (v := .tuple #[.slice none 0 0, .int .i64 3]) (by simp [results, Tryd.results19, go_sem]) rfl ?_
          have hX := HUP.out
          rw [if_pos trivial] at hX
          rw [HFS.out, ← hX]
          exact ⟨_, rfl, Kd.V_nil _ _ _ _ _, HB1.out.trans (HB2.out.mono HB1.out.size)⟩
        · have hw1 : wrap64 (tot + m) = tot + m := w64 (by omega) (by omega)
          have hX := HUP.out
          rw [if_neg hm0] at hX
          have HUQ := Aside0.mk hX
          clear HUP hX
          have hr18 : (1 : Int) ≤ m := by omega
          go_wp2_with fail
          go_loopg [4, 13] m.toNat (fun gg v4 v13 w5 => ∃ (j : Nat) (o : List S26), (j : Int) ≤ m ∧ m.toNat - j ≤ gg ∧ v13 = .int .i64 j ∧ (tot + m ≤ 10000 ∨ j = 0) ∧ Aside0 (o = out ++ List.replicate j p) ∧ o.length = out.length + j ∧ Aside0 (Kd.N k26 26 w5 w1.heap.size (fun _ => True) v4 o) ∧ Aside0 (some A ≠ v4.ownBlock) ∧ Aside0 (some bx ≠ v4.ownBlock) ∧ Aside0 (∀ k, some k = (Value.slice A3 p.f3.length c3).ownBlock → some k ≠ v4.ownBlock ∧ k < w5.heap.size) ∧ Aside0 (w5.heap[A]? = some (.cells cur 9 (0, 0))) ∧ Aside0 (w5.heap[bx]? = some (.cells #[.int .i64 p.f0, .int .i64 p.f1, .int .i64 p.f2, .slice A3 p.f3.length c3] 26 (0, 0))) ∧ Aside0 (Kd.F (Kd.int .i64) w5 (fun k => some k = (Value.slice A3 p.f3.length c3).ownBlock) A3 p.f3.length p.f3) ∧ Aside0 (Below w1.heap.size w1 w5) ∧ W.heap.size ≤ w5.heap.size)
          case atStart => exact ⟨0, out, by omega, by omega, rfl, .inr rfl, ⟨by simp⟩, rfl, HN2, HNE, HXN, ⟨fun k hk => ⟨HVN.out k hk, (HK3.out k hk).2⟩⟩, HBA2, HBX, HF3, HB2, Nat.le_refl _⟩
          case round =>
            obtain ⟨j, o, hj, hgj, rfl, hcase, HO, hoj, HN5, HNE5, HXN5, HVN5, HBA5, HBX5, HF5, HB5, hw5⟩ := hrel
            obtain ⟨⟨y0, y1, y2, y3⟩, y4, y5, y6, y7⟩ := blk4 HBX5.out
            by_cases hjm : (j : Int) < m
            · by_cases htm : tot + m ≤ 10000
              · have hob : o.length ≤ 20000 := by
                  have := hot (by omega)
                  omega
                have HFK := Aside0.mk (k26_mkF wr (fun k => some k = (Value.slice A3 p.f3.length c3).ownBlock) p HL3.out HF5.out)
                have hbw : w1.heap.size ≤ wr.heap.size := HB5.out.size
                go_wp2_with ((with_reducible refine gate_builtin (b := .append) (xs := #[.tmp 56, .tmp 58]) rfl ?_); at_builtin; refine Kd.N_append k26 (w0 := w1) w1.heap.size rfl (.tmp 56) (.tmp 58) 27 26 (.agg #[(.int .i64 0), (.int .i64 0), (.int .i64 0), (.slice none 0 0)]) 48 rfl Tryd.underlying27 info26 rfl (by decide) (by omega) u4 o p [.int .i64 p.f0, .int .i64 p.f1, .int .i64 p.f2, .slice A3 p.f3.length c3] (fun _ => True) (fun k => some k = (Value.slice A3 p.f3.length c3).ownBlock) (by first | rfl | (go_simp; done) | (go_simp; rfl)) (by first | rfl | (go_simp; done) | (go_simp; rfl)) HFK.out (fun k hk => ⟨trivial, (HVN5.out k hk).1⟩) (fun k hk => trivial) HN5.out HB5.out hbw (by omega) ?_; intro v1 w6 ho hb hg3 hat3)
                have HN6 := Aside0.mk ho
                have HB6 := Aside0.mk hb
                have hA5 : A < wr.heap.size := blk_lt HBA5.out
                have hX5 : bx < wr.heap.size := blk_lt HBX5.out
                have HS6 := Aside0.mk hg3.size
                have HNE6 : Aside0 (some A ≠ v1.ownBlock) := ⟨by
                  rcases hat3 with h | ⟨b, h, hb⟩
                  · rw [h]; exact HNE5.out
                  · rw [h]; intro e; injection e with e; omega⟩
                have HXN6 : Aside0 (some bx ≠ v1.ownBlock) := ⟨by
                  rcases hat3 with h | ⟨b, h, hb⟩
                  · rw [h]; exact HXN5.out
                  · rw [h]; intro e; injection e with e; omega⟩
                have HVN6 : Aside0 (∀ k, some k = (Value.slice A3 p.f3.length c3).ownBlock → some k ≠ v1.ownBlock ∧ k < w6.heap.size) := ⟨fun k hk => by
                  have h9 := HVN5.out k hk
                  have h8 := HS6.out
                  refine ⟨?_, by omega⟩
                  rcases hat3 with h | ⟨b, h, hb⟩
                  · rw [h]; exact h9.1
                  · rw [h]; intro e; injection e with e; omega⟩
                have HBA6 := Aside0.mk (blk_grown HBA5.out hg3 HNE5.out)
                have HBX6 := Aside0.mk (blk_grown HBX5.out hg3 HXN5.out)
                have HF6 := Aside0.mk (Kd.F_grown HF5.out hg3 (fun k hk => (HVN5.out k hk).1))
                have HO6 : Aside0 (o ++ [p] = out ++ List.replicate (j + 1) p) := ⟨by rw [HO.out, List.append_assoc, List.replicate_succ']⟩
                clear ho hb hat3
                go_roundg (m.toNat - (j + 1))
                case measure => omega
                case rel => exact ⟨j + 1, o ++ [p], by omega, by omega, by go_num, .inl htm, HO6, by simp; omega, HN6, HNE6, HXN6, HVN6, HBA6, HBX6, HF6, HB6, by have := HS6.out; omega⟩
              · have hnx : ¬ tot + m ≤ 10000 := htm
                obtain rfl : j = 0 := by rcases hcase with h | h; exact absurd h htm; exact h
                have hX := HUQ.out
                rw [if_neg htm] at hX
                have HX := Aside0.mk hX
                have ho : o = out := by rw [HO.out]; simp
                subst ho
                clear hX HUQ
                go_wp2
                go_roundg (fs.length - (i + 1))
                case measure => omega
                case rel => exact ⟨i + 1, tot + m, o, by omega, by omega, by go_num, by go_num, by omega, by omega, hol, fun h => by omega, HX, HN5, HNE5, HBA5, HB5⟩
            · have hjm' : (j : Int) = m := by omega
              have htm : tot + m ≤ 10000 := by rcases hcase with h | h; exact h; omega
              have hX := HUQ.out
              rw [if_pos htm] at hX
              have HX : Aside0 (parL (fs.drop (i + 1)) (tot + m) o = parL fs 0 []) := ⟨by rw [← hX, HO.out, show j = m.toNat by omega]⟩
              have hol2 : (o.length : Int) ≤ tot + m := by have := hot (by omega); omega
              clear hX HUQ
              have hjn : ¬ (j : Int) < m := hjm
              go_wp2
              go_roundg (fs.length - (i + 1))
              case measure => omega
              case rel => exact ⟨i + 1, tot + m, o, by omega, by omega, by go_num, by go_num, by omega, by omega, by omega, fun _ => hol2, HX, HN5, HNE5, HBA5, HB5⟩
      have HFB0 := Aside0.mk (blk_new (wr.alloc (Obj.cells #[.int .i64 0, .int .i64 0, .int .i64 0, .slice none 0 0] 26 (0, 0))) (Obj.cells #[.func (.func 27) #[.string wd] #[], .func (.func 28) #[.string wd] #[], .func (.func 29) #[.string wd] #[]] 51 (0, 0)))
      have HW0 := Aside0.mk (((Below.refl wr.heap.size wr).alloc (Nat.le_refl _) (Obj.cells #[.int .i64 0, .int .i64 0, .int .i64 0, .slice none 0 0] 26 (0, 0))).alloc (by simp) (Obj.cells #[.func (.func 27) #[.string wd] #[], .func (.func 28) #[.string wd] #[], .func (.func 29) #[.string wd] #[]] 51 (0, 0)))
      have hS0 : ((wr.alloc (Obj.cells #[.int .i64 0, .int .i64 0, .int .i64 0, .slice none 0 0] 26 (0, 0))).alloc (Obj.cells #[.func (.func 27) #[.string wd] #[], .func (.func 28) #[.string wd] #[], .func (.func 29) #[.string wd] #[]] 51 (0, 0))).heap.size = bx + 2 := by rw [World.size_alloc, World.size_alloc, hbx]
      have hS1 : (wr.alloc (Obj.cells #[.int .i64 0, .int .i64 0, .int .i64 0, .slice none 0 0] 26 (0, 0))).heap.size = bx + 1 := by rw [World.size_alloc, hbx]
      rw [hS1] at HFB0
      have HBX1 := Aside0.mk (blk_alloc HBX0.out (Obj.cells #[.func (.func 27) #[.string wd] #[], .func (.func 28) #[.string wd] #[], .func (.func 29) #[.string wd] #[]] 51 (0, 0)))
      refine wp_loop_rounds 4 ?_
      rw [rounds_succ]
      go_wp2_with fail
      refine (step_walk wd HWZ.out _ (HHL.out _ (HB.out.trans (HW0.out.mono HB.out.size)))).mono ?_
      rintro e w2 ⟨v3, rfl, hR3, hb2⟩
      have HBW2 := Aside0.mk (HW0.out.trans (hb2.mono (by rw [hS0, hbx]; omega)))
      have HBX2 := Aside0.mk (blk_below HBX1.out hb2)
      have HFB2 := Aside0.mk (blk_below HFB0.out hb2)
      obtain ⟨A3, c3, rfl⟩ := Kd.R_slice hR3
      have HR3 := Aside0.mk hR3
      clear hR3
      obtain ⟨sp, hsp⟩ : ∃ sp, stepV wd = sp := ⟨_, rfl⟩
      rw [hsp] at HR3
      obtain ⟨p, m⟩ := sp
      have HSP := Aside0.mk hsp
      simp only [hsp]
      clear hsp
      obtain ⟨⟨q0, q1, q2, q3⟩, z0, z1, z2, z3⟩ := blk4 HBX2.out
      have HK3 : Aside0 (∀ k, some k = (Value.slice A3 p.f3.length c3).ownBlock → bx + 2 ≤ k ∧ k < w2.heap.size) := ⟨fun k hk => ⟨by have := Kd.R_base HR3.out k hk.symm; rw [hS0] at this; exact this, Kd.R_lt HR3.out k hk.symm⟩⟩
      by_cases hm : 0 < m
      · go_wp2_with fail
        exact HK m p A3 c3 _ _ _ _ _ _ _ _ _ _ _ _ _ _ _ _ _ _ _ _ _ _ _ _ _ _ _ _ _ _ _ _ _ _ _ _ _ _ _ _ _ _ _ _ _ _ _ _ _ _ ⟨by unfold wordV; rw [HSP.out, if_pos hm]⟩ ⟨box_put HBX2.out _ _ _ _⟩ ⟨F_box (Kd.R_F (Kd.R_tight rfl HR3.out)) (fun k hk => by have := (HK3.out k hk).1; omega) _ _ _ _⟩ ⟨(Kd.R_reads' HR3.out).2.1⟩ ⟨fun k hk => ⟨by have := (HK3.out k hk).1; omega, by simp; exact (HK3.out k hk).2⟩⟩ ⟨box_below HBW2.out (by omega) _ _ _ _⟩
      · have HBX3 := Aside0.mk (box_put HBX2.out (.int .i64 p.f0) (.int .i64 p.f1) (.int .i64 p.f2) (.slice A3 p.f3.length c3))
        have HFB3 := Aside0.mk (box_other (bx := bx) (g' := bx + 1) HFB2.out (by omega) (.int .i64 p.f0) (.int .i64 p.f1) (.int .i64 p.f2) (.slice A3 p.f3.length c3))
        have HBW3 := Aside0.mk (box_below (bx := bx) HBW2.out (by omega) (.int .i64 p.f0) (.int .i64 p.f1) (.int .i64 p.f2) (.slice A3 p.f3.length c3))
        have d1 : w2.cell? ⟨bx + 1, 1, none⟩ = some (.func (.func 28) #[.string wd] #[]) := blk_cell HFB2.out 1
        have hms : bx + 2 ≤ w2.heap.size := by have := (blk_lt HFB2.out); omega
        have HMS := Aside0.mk hms
        clear hms
        go_wp2_with fail
        rw [rounds_succ]
        go_wp2_with fail
        refine (stall_walk wd HWZ.out _ (HHL.out _ (HB.out.trans (HBW3.out.mono HB.out.size)))).mono ?_
        rintro e w3 ⟨v4, rfl, hR4, hb3⟩
        have HBW4 := Aside0.mk (HBW3.out.trans (hb3.mono HBW3.out.size))
        have HBX4 := Aside0.mk (blk_below HBX3.out hb3)
        have HFB4 := Aside0.mk (blk_below HFB3.out hb3)
        obtain ⟨A4, c4, rfl⟩ := Kd.R_slice hR4
        have HR4 := Aside0.mk hR4
        clear hb3 hR4 d1 q0 q1 q2 q3 z0 z1 z2 z3
        obtain ⟨tp, htp⟩ : ∃ tp, stallV wd = tp := ⟨_, rfl⟩
        rw [htp] at HR4
        obtain ⟨p2, m2⟩ := tp
        have HTP := Aside0.mk htp
        simp only [htp]
        clear htp
        obtain ⟨⟨q0, q1, q2, q3⟩, z0, z1, z2, z3⟩ := blk4 HBX4.out
        have HK4 : Aside0 (∀ k, some k = (Value.slice A4 p2.f3.length c4).ownBlock → bx + 2 ≤ k ∧ k < w3.heap.size) := ⟨fun k hk => ⟨by have := Kd.R_base HR4.out k hk.symm; have h7 := HMS.out; simp at this; omega, Kd.R_lt HR4.out k hk.symm⟩⟩
        by_cases hm2 : 0 < m2
        · go_wp2_with fail
          exact HK m2 p2 A4 c4 _ _ _ _ _ _ _ _ _ _ _ _ _ _ _ _ _ _ _ _ _ _ _ _ _ _ _ _ _ _ _ _ _ _ _ _ _ _ _ _ _ _ _ _ _ _ _ _ _ _ ⟨by unfold wordV; rw [HSP.out, if_neg (show ¬ 0 < (p, m).2 by show ¬ (0 : Int) < m; omega), HTP.out, if_pos hm2]⟩ ⟨box_put HBX4.out _ _ _ _⟩ ⟨F_box (Kd.R_F (Kd.R_tight rfl HR4.out)) (fun k hk => by have := (HK4.out k hk).1; omega) _ _ _ _⟩ ⟨(Kd.R_reads' HR4.out).2.1⟩ ⟨fun k hk => ⟨by have := (HK4.out k hk).1; omega, by simp; exact (HK4.out k hk).2⟩⟩ ⟨box_below HBW4.out (by omega) _ _ _ _⟩
        · have HBX5 := Aside0.mk (box_put HBX4.out (.int .i64 p2.f0) (.int .i64 p2.f1) (.int .i64 p2.f2) (.slice A4 p2.f3.length c4))
          have HFB5 := Aside0.mk (box_other (bx := bx) (g' := bx + 1) HFB4.out (by omega) (.int .i64 p2.f0) (.int .i64 p2.f1) (.int .i64 p2.f2) (.slice A4 p2.f3.length c4))
          have HBW5 := Aside0.mk (box_below (bx := bx) HBW4.out (by omega) (.int .i64 p2.f0) (.int .i64 p2.f1) (.int .i64 p2.f2) (.slice A4 p2.f3.length c4))
          have d1 : w3.cell? ⟨bx + 1, 2, none⟩ = some (.func (.func 29) #[.string wd] #[]) := blk_cell HFB4.out 2
          have HMS2 : Aside0 (bx + 2 ≤ w3.heap.size) := ⟨by have := (blk_lt HFB4.out); omega⟩
          go_wp2_with fail
          rw [rounds_succ]
          go_wp2_with fail
          refine (crash_walk wd HWZ.out _ (HHL.out _ (HB.out.trans (HBW5.out.mono HB.out.size)))).mono ?_
          rintro e w4 ⟨v5, rfl, hR5, hb4⟩
          have HBW6 := Aside0.mk (HBW5.out.trans (hb4.mono HBW5.out.size))
          have HBX6 := Aside0.mk (blk_below HBX5.out hb4)
          obtain ⟨A5, c5, rfl⟩ := Kd.R_slice hR5
          have HR5 := Aside0.mk hR5
          clear hb4 hR5 d1 q0 q1 q2 q3 z0 z1 z2 z3
          obtain ⟨up, hup⟩ : ∃ up, crashV wd = up := ⟨_, rfl⟩
          rw [hup] at HR5
          obtain ⟨p3, m3⟩ := up
          have HCP := Aside0.mk hup
          simp only [hup]
          clear hup
          obtain ⟨⟨q0, q1, q2, q3⟩, z0, z1, z2, z3⟩ := blk4 HBX6.out
          have HK5 : Aside0 (∀ k, some k = (Value.slice A5 p3.f3.length c5).ownBlock → bx + 2 ≤ k ∧ k < w4.heap.size) := ⟨fun k hk => ⟨by have := Kd.R_base HR5.out k hk.symm; have h7 := HMS2.out; simp at this; omega, Kd.R_lt HR5.out k hk.symm⟩⟩
          have HVV : Aside0 (wordV wd = (p3, m3)) := ⟨by unfold wordV; rw [HSP.out, if_neg (show ¬ 0 < (p, m).2 by show ¬ (0 : Int) < m; omega), HTP.out, if_neg (show ¬ 0 < (p2, m2).2 by show ¬ (0 : Int) < m2; omega), HCP.out]⟩
          by_cases hm3 : 0 < m3
          · go_wp2_with fail
            exact HK m3 p3 A5 c5 _ _ _ _ _ _ _ _ _ _ _ _ _ _ _ _ _ _ _ _ _ _ _ _ _ _ _ _ _ _ _ _ _ _ _ _ _ _ _ _ _ _ _ _ _ _ _ _ _ _ HVV ⟨box_put HBX6.out _ _ _ _⟩ ⟨F_box (Kd.R_F (Kd.R_tight rfl HR5.out)) (fun k hk => by have := (HK5.out k hk).1; omega) _ _ _ _⟩ ⟨(Kd.R_reads' HR5.out).2.1⟩ ⟨fun k hk => ⟨by have := (HK5.out k hk).1; omega, by simp; exact (HK5.out k hk).2⟩⟩ ⟨box_below HBW6.out (by omega) _ _ _ _⟩
          · go_wp2_with fail
            rw [rounds_succ]
            go_wp2_with fail
            exact HK m3 p3 A5 c5 _ _ _ _ _ _ _ _ _ _ _ _ _ _ _ _ _ _ _ _ _ _ _ _ _ _ _ _ _ _ _ _ _ _ _ _ _ _ _ _ _ _ _ _ _ _ _ _ _ _ HVV ⟨box_put HBX6.out _ _ _ _⟩ ⟨F_box (Kd.R_F (Kd.R_tight rfl HR5.out)) (fun k hk => by have := (HK5.out k hk).1; omega) _ _ _ _⟩ ⟨(Kd.R_reads' HR5.out).2.1⟩ ⟨fun k hk => ⟨by have := (HK5.out k hk).1; omega, by simp; exact (HK5.out k hk).2⟩⟩ ⟨box_below HBW6.out (by omega) _ _ _ _⟩
    · obtain rfl : i = fs.length := by omega
      have hup := HPL.out
      rw [List.drop_length] at hup
      by_cases htt : tot > 10000
      · have hX : parL fs 0 [] = ([], 2) := by rw [← hup]; exact if_pos htt
        have HX := Aside0.mk hX
        clear hX hup HPL
        go_wp2
        refine bodyPost_ret (v := .tuple #[.slice none 0 0, .int .i64 2]) (by simp [results, Tryd.results19, go_sem]) rfl ?_
        rw [HFS.out, HX.out]
        exact ⟨_, rfl, Kd.V_nil _ _ _ _ _, HB1.out.trans (HB.out.mono HB1.out.size)⟩
      · have hX : parL fs 0 [] = (out, 0) := by rw [← hup]; exact if_neg htt
        have HX := Aside0.mk hX
        clear hX hup HPL
        go_wp2
        refine bodyPost_ret (v := .tuple #[u4, .int .i64 0]) (by simp [results, Tryd.results19, go_sem]) rfl ?_
        rw [HFS.out, HX.out]
        exact ⟨_, rfl, Kd.V_mono (Kd.N_V HN.out) (fun _ _ => trivial), HB1.out.trans (HB.out.mono HB1.out.size)⟩
def sParse.f (s : ByteArray) : Option (List S26 × Int) := if s.size ≤ 1000000 then some (parL (Lib.goFieldsP isSp s) 0 []) else none
theorem sParse.calls (a0 : ByteArray) (r1 : List S26) (r2 : Int) (w : World) (h : sParse.f a0 = some (r1, r2)) (hL : Laid w) : Calls Tryd.prog 19 #[.string a0] w fun e w' => ∃ v0_ : Value, e = .returned (.tuple #[v0_, .int .i64 r2]) ∧ Kd.V k26 26 w' w.heap.size (fun _ => True) v0_ r1 ∧ Below w.heap.size w w' := by
  unfold sParse.f at h
  by_cases hs : a0.size ≤ 1000000
  · rw [if_pos hs] at h
    have h1 : parL (Lib.goFieldsP isSp a0) 0 [] = (r1, r2) := Option.some.inj h
    have := parse_walk a0 hs w hL
    rwa [h1] at this
  · rw [if_neg hs] at h
    cases h
end Go.Proofs.YtcnclgneldonfaaDoor.P
