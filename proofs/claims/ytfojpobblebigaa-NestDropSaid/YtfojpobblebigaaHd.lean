/- Rows of api.Write by their cells; copy at two cells; slices.Insert at []api.Write. -/
import Derived.Test.YtfojpobblebigaaHc
import Derived.Shelf.RegionOpenPlain
import Derived.Laws.CopyOwn
import Derived.Shelf.Spec.SlicesInsertGrow
namespace Go.Proofs.Ytfojpobblebigaa.P
open Go.RowKit Go.Proofs.YtfojpobblebigaaW.PrintWords Go.Proofs.YtfojpobblebigaaW.PrintLast Go.Proofs.YtfojpobblebigaaW.PrintMore
set_option linter.unusedVariables false
set_option linter.unusedSimpArgs false

def w2 (x : S33) : List Value := [.int .i64 x.f0, .int .i64 x.f1]
def wc (l : List S33) : List Value := l.flatMap w2
theorem wc_cons (x : S33) (l : List S33) : wc (x :: l) = w2 x ++ wc l := rfl
theorem wc_append (a b : List S33) : wc (a ++ b) = wc a ++ wc b := List.flatMap_append
theorem wc_len (l : List S33) : (wc l).length = l.length * 2 := by
  induction l with
  | nil => rfl
  | cons x l ih => rw [wc_cons, List.length_append, ih, List.length_cons]; show 2 + _ = _; omega
theorem wc_one (l : List S33) : ∀ v ∈ wc l, v.oneCell' = true := by
  intro v hv
  obtain ⟨x, _, hx⟩ := List.mem_flatMap.1 hv
  simp only [w2, List.mem_cons, List.not_mem_nil, or_false] at hx
  rcases hx with rfl | rfl <;> rfl
theorem wc_take (l : List S33) (i : Nat) : (wc l).take (i * 2) = wc (l.take i) := by
  induction l generalizing i with
  | nil => simp [wc]
  | cons x l ih =>
    cases i with
    | zero => simp [wc]
    | succ i =>
      rw [List.take_succ_cons, wc_cons, wc_cons, ← ih i, show (i + 1) * 2 = i * 2 + 2 by omega]
      rfl
theorem wc_drop (l : List S33) (i : Nat) : (wc l).drop (i * 2) = wc (l.drop i) := by
  induction l generalizing i with
  | nil => simp [wc]
  | cons x l ih =>
    cases i with
    | zero => simp [wc]
    | succ i =>
      rw [List.drop_succ_cons, wc_cons, ← ih i, show (i + 1) * 2 = i * 2 + 2 by omega]
      rfl
theorem reps_wc (l : List S33) : Reps (fun x c => c = w2 x) 2 l (wc l) := by
  refine ⟨wc_len l, fun j x hj => ?_⟩
  obtain ⟨hl, rfl⟩ := List.getElem?_eq_some_iff.1 hj
  rw [wc_drop, List.drop_eq_getElem_cons hl, wc_cons]
  rfl
theorem reps_wc_eq : ∀ (l : List S33) (inner : List Value), Reps (fun x c => c = w2 x) 2 l inner → inner = wc l
  | [], inner, h => by
    have := h.1
    simpa [wc] using this
  | x :: l, inner, h => by
    have h0 := h.2 0 x rfl
    rw [Nat.zero_mul, List.drop_zero] at h0
    have ih := reps_wc_eq l (inner.drop 2) ⟨by rw [List.length_drop, h.1, List.length_cons]; omega, fun j y hj => by
      have := h.2 (j + 1) y hj
      rw [List.drop_drop]
      rwa [show 2 + j * 2 = (j + 1) * 2 by omega]⟩
    rw [wc_cons, ← h0, ← ih, List.take_append_drop]
theorem own_of_N33 {w : World} {base : Nat} {ok : Nat → Prop} {v : Value} {l : List S33} (h : Kd.N k33 33 w base ok v l) : w.ownsRow base 33 2 v l.length (wc l) := by
  obtain ⟨h0, rows, hl, ⟨_, inner, ho, hr⟩, hf⟩ := h
  have : Reps (fun x c => c = w2 x) 2 l inner := by
    refine ⟨by rw [← hl]; exact hr.1, fun j x hj => ?_⟩
    have hjl := (List.getElem?_eq_some_iff.1 hj).1
    have hc := List.getElem?_eq_getElem (l := rows) (i := j) (by omega)
    have h1 := (hr.2 j _ hc).1
    have h2 := k33_open (Kd.FK_now (hf j x _ hj hc))
    exact h1.trans h2
  rw [← reps_wc_eq l inner this, ← hl]
  exact ho
theorem N33_of_own {w : World} {base : Nat} {v : Value} {l : List S33} (h : w.ownsRow base 33 2 v l.length (wc l)) : Kd.N k33 33 w base (fun k => base ≤ k) v l :=
  Kd.R_N ⟨fun k hk => own_base h k hk, wc l, h, (reps_wc l).imp_ (fun x c hc => by subst hc; exact k33_mkM _ _ _ _)⟩

theorem run_copy_row2 (w : World) (dT sT ty elem : TypeId) (g o dLen dCap : Nat) (a : Addr) (sLen sCap : Nat) (cur : Array Value) (t : TypeId) (cs : List Value)
    (hu : Try.prog.underlying dT = some (.slice elem)) (hs : (Try.prog.info? elem).map (·.size) = some 2)
    (hg : w.heap[g]? = some (.cells cur t (0, 0))) (m : Nat) (hm : Nat.min sLen dLen = m) (hn : cs.length = m * 2)
    (hsrc : ∀ j v, cs[j]? = some v → w.cell? (a.add j) = some v) (hfit : o + cs.length ≤ cur.size) (h1 : ∀ v ∈ cs, v.oneCell' = true) :
    (Builtin.copy_ #[dT, sT] ty #[.slice (some ⟨g, o, none⟩) dLen dCap, .slice (some a) sLen sCap]).run Try.prog w =
      .ok (goInt m) (w.setRow g (cur.toList.take o ++ cs ++ cur.toList.drop (o + cs.length)).toArray) := by
  have hl := run_loadCells_list (P := Try.prog) w a cs hsrc
  have hst := run_storeCells_at Try.prog g o t cs 0 cur w hg (by simpa using hfit) h1
  cases hq : Try.prog.info? elem with
  | none => simp [hq] at hs
  | some i =>
    have hi : i.size = 2 := by simpa [hq] using hs
    simp [Builtin.copy_, run_underlying hu, Builtin.lenOf, Builtin.firstCells, sizeOf, typeInfo, hq, hi, hm, ← hn, hl, hst]
theorem size33 : (Try.prog.info? 33).map (·.size) = some 2 := by kernel_rfl

def ins (l : List S33) (i : Nat) (x : S33) : List S33 := l.take i ++ x :: l.drop i
theorem ins_len (l : List S33) (i : Nat) (x : S33) (hi : i ≤ l.length) : (ins l i x).length = l.length + 1 := by
  unfold ins
  rw [List.length_append, List.length_cons, List.length_take, List.length_drop]
  omega
theorem wc_ins (l : List S33) (i : Nat) (x : S33) : wc (ins l i x) = wc (l.take i) ++ (w2 x ++ wc (l.drop i)) := by
  unfold ins
  rw [wc_append, wc_cons]
theorem w2_len (x : S33) : (w2 x).length = 2 := rfl

open Go.Lib in
set_option maxHeartbeats 8000000 in
set_option maxRecDepth 100000 in
theorem insert_grow (g c i vb : Nat) (l : List S33) (x : S33) (w : World) (cur : Array Value) (hi : i < l.length) (hnc : l.length ≤ c) (hroom : c < l.length + 1) (hlim : l.length ≤ LIM)
    (hg : w.heap[g]? = some (.cells cur 33 (0, 0))) (hcur : cur.size = c * 2) (htk : cur.toList.take (l.length * 2) = wc l) (hv : w.heap[vb]? = some (.cells (w2 x).toArray 33 (0, 0))) :
    Calls Try.prog 60 #[.slice (some ⟨g, 0, none⟩) l.length c, .int .i64 i, .slice (some ⟨vb, 0, none⟩) 1 1] w fun e w' => ∃ G, 
      e = .returned (.slice (some ⟨w.heap.size, 0, none⟩) (l.length + 1) G) ∧ w'.ownsRow w.heap.size 33 2 (.slice (some ⟨w.heap.size, 0, none⟩) (l.length + 1) G) (l.length + 1) (wc (ins l i x)) ∧ Below w.heap.size w w' := by
  obtain ⟨i0, hi0, hz0, hzs, hzb⟩ := info_parts info33
  have hcs : ∀ j v, (wc l)[j]? = some v → w.cell? ⟨g, j, none⟩ = some v := fun j v hj => by
    rw [blk_cell hg j, ← Array.getElem?_toList]
    rw [← htk, List.getElem?_take] at hj
    split at hj
    · exact hj
    · cases hj
  have hvs : ∀ j v, (w2 x)[j]? = some v → w.cell? ⟨vb, j, none⟩ = some v := fun j v hj => by
    rw [blk_cell hv j]
    simpa using hj
  have hz2 : ¬ ((i : Int) = (l.length : Int)) := by omega
  have hz3 : (c : Int) < (l.length : Int) + 1 := by omega
  have hbw : g < w.heap.size := blk_lt hg
  have hvw : vb < w.heap.size := blk_lt hv
  have hkk : (l.length : Int) + 1 - (i : Int) = ((l.length + 1 - i : Nat) : Int) := by omega
  have hik : i + (l.length + 1 - i) = l.length + 1 := by omega
  have hold : (Builtin.firstCells i0.size i (.slice (some ⟨g, 0, none⟩) i c)).run Try.prog w.drew = .ok (wc (l.take i)).toArray w.drew := by
    rw [hzs]
    exact run_firstCells_some w.drew 2 i ⟨g, 0, none⟩ i c (wc (l.take i)) (by rw [wc_len, List.length_take]; omega) (fun j v hj => by
      rw [Addr.add_lit, Nat.zero_add]
      rw [← wc_take, List.getElem?_take] at hj
      split at hj
      · exact hcs j v hj
      · cases hj)
  obtain ⟨G, hG⟩ : ∃ G, G = grownCap w (l.length + 1) c 33 := ⟨_, rfl⟩
  have hGn : l.length + 1 ≤ G := by rw [hG]; exact grownCap_ge w _ _ _
  have hG63 : G ≤ 9223372036854775807 := by
    have := grownCap_le_maxLen w (l.length + 1) c 33 (by unfold maxLen; unfold LIM at hlim; omega)
    rw [← hG] at this
    unfold maxLen at this
    omega
  obtain ⟨ROW, hROW⟩ : ∃ ROW : Array Value, ROW = (wc (l.take i)).toArray ++ Builtin.zeroCells (Value.agg #[(.int .i64 0), (.int .i64 0)]).cells (l.length + 1 - i) ++ Builtin.zeroCells (Value.agg #[(.int .i64 0), (.int .i64 0)]).cells (G - (l.length + 1)) := ⟨_, rfl⟩
  have hrz : ∀ ty, (Builtin.append_ #[24, 3] ty #[.slice (some ⟨g, 0, none⟩) i c, .int .i64 ((l.length : Int) + 1 - (i : Int))]).run Try.prog w =
      .ok (.slice (some ⟨w.heap.size, 0, none⟩) (l.length + 1) G) (w.drew.alloc (.cells ROW 33)) := fun ty => by
    have h := Lib.run_append_grow_zeros w 24 3 ty 33 i0 _ .i64 .i64 Try.underlying24 Try.underlying3 hi0 hz0 (some ⟨g, 0, none⟩) i c (wc (l.take i)) hold (l.length + 1 - i) (by omega) (by omega) (by omega) (by unfold LIM at hlim; omega) (by rw [hzb]; unfold LIM at hlim; omega) (by rw [hzb, hik]; exact growslice_fits hroom (by unfold LIM at hlim; omega))
    rw [hik] at h
    rw [hkk, hROW, hG]
    exact h
  have hRs : ROW.size = G * 2 := by
    rw [hROW]
    simp [Builtin.zeroCells, Value.cells, wc_len]
    omega
  have hRt : ROW.toList.take (i * 2) = wc (l.take i) := by
    rw [hROW]
    simp only [Array.toList_append, List.append_assoc]
    rw [List.take_append_of_le_length (by rw [wc_len, List.length_take]; omega), List.take_of_length_le (by rw [wc_len, List.length_take]; omega)]
  have hcpA : ∀ (W : World), W.heap[w.heap.size]? = some (.cells ROW 33 (0, 0)) → W.heap[vb]? = some (.cells (w2 x).toArray 33 (0, 0)) → ∀ ty dc, (Builtin.copy_ #[24, 24] ty #[.slice (some ⟨w.heap.size, i * 2, none⟩) (l.length + 1 - i) dc, .slice (some ⟨vb, 0, none⟩) 1 1]).run Try.prog W = .ok (goInt 1) (W.setRow w.heap.size (wc (l.take i) ++ w2 x ++ ROW.toList.drop (i * 2 + 2)).toArray) := fun W h1 h2 ty dc => by
    have h := run_copy_row2 W 24 24 ty 33 w.heap.size (i * 2) (l.length + 1 - i) dc ⟨vb, 0, none⟩ 1 1 ROW 33 (w2 x) Try.underlying24 size33 h1 1 (Nat.min_eq_left (by omega)) (by rw [w2_len]) (fun j v hj => by rw [Addr.add_lit, Nat.zero_add, blk_cell h2 j]; simpa using hj) (by rw [w2_len, hRs]; omega) (fun v hv => wc_one [x] v (by simpa [wc] using hv))
    rw [hRt] at h
    exact h
  obtain ⟨R1, hR1⟩ : ∃ R1, R1 = (wc (l.take i) ++ w2 x ++ ROW.toList.drop (i * 2 + 2)).toArray := ⟨_, rfl⟩
  rw [← hR1] at hcpA
  have hR1s : R1.size = G * 2 := by
    rw [hR1]
    simp [wc_len, w2_len, hRs]
    omega
  have hR1t : R1.toList.take ((i + 1) * 2) = wc (l.take i) ++ w2 x := by
    rw [hR1, show (i + 1) * 2 = (wc (l.take i) ++ w2 x).length by rw [List.length_append, wc_len, w2_len, List.length_take]; omega]
    exact List.take_left' rfl
  have hcpB : ∀ (W : World), W.heap[w.heap.size]? = some (.cells R1 33 (0, 0)) → W.heap[g]? = some (.cells cur 33 (0, 0)) → ∀ ty dc sc, (Builtin.copy_ #[24, 24] ty #[.slice (some ⟨w.heap.size, (i + 1) * 2, none⟩) (l.length + 1 - (i + 1)) dc, .slice (some ⟨g, i * 2, none⟩) (l.length - i) sc]).run Try.prog W = .ok (goInt ((l.length - i : Nat) : Int)) (W.setRow w.heap.size (wc (l.take i) ++ w2 x ++ wc (l.drop i) ++ R1.toList.drop ((i + 1) * 2 + (wc (l.drop i)).length)).toArray) := fun W h1 h2 ty dc sc => by
    have h := run_copy_row2 W 24 24 ty 33 w.heap.size ((i + 1) * 2) (l.length + 1 - (i + 1)) dc ⟨g, i * 2, none⟩ (l.length - i) sc R1 33 (wc (l.drop i)) Try.underlying24 size33 h1 (l.length - i) (Nat.min_eq_left (by omega)) (by rw [wc_len, List.length_drop]) (fun j v hj => by
      rw [Addr.add_lit, blk_cell h2 _, ← Array.getElem?_toList]
      rw [← wc_drop, List.getElem?_drop, ← htk, List.getElem?_take] at hj
      split at hj
      · exact hj
      · cases hj) (by rw [wc_len, List.length_drop, hR1s]; omega) (wc_one _)
    rw [hR1t] at h
    exact h
  obtain ⟨R2, hR2⟩ : ∃ R2, R2 = (wc (l.take i) ++ w2 x ++ wc (l.drop i) ++ R1.toList.drop ((i + 1) * 2 + (wc (l.drop i)).length)).toArray := ⟨_, rfl⟩
  rw [← hR2] at hcpB
  have hR2s : R2.size = G * 2 := by
    rw [hR2]
    simp [wc_len, w2_len, hR1s]
    omega
  have hR2t : R2.toList.take ((l.length + 1) * 2) = wc (ins l i x) := by
    rw [hR2, wc_ins, ← List.append_assoc, show (l.length + 1) * 2 = (wc (l.take i) ++ w2 x ++ wc (l.drop i)).length by simp [wc_len, w2_len]; omega]
    exact List.take_left' rfl
  have hGi : ¬ (G = i) := by omega
  have hGim : ¬ (G = i + 1) := by omega
  have hci : ¬ (c = i) := by omega
  have hw1 : IntKind.i64.wrap ((i : Int) + 1) = (i : Int) + 1 := by rw [IntKind.wrap_i64]; unfold LIM at hlim; omega
  have hb1 : (0 : Int) ≤ (i : Int) + 1 := by omega
  have hin : i ≤ l.length := by omega
  have htn : ((i : Int) + 1).toNat = i + 1 := by omega
  have hb3 : (i : Int) ≤ (l.length : Int) := by omega
  have hn63 : l.length + 1 ≤ 9223372036854775807 := by unfold LIM at hlim; omega
  obtain ⟨W1, hW1⟩ : ∃ W1, W1 = w.drew.alloc (.cells ROW 33) := ⟨_, rfl⟩
  rw [← hW1] at hrz
  have hN1 : W1.heap[w.heap.size]? = some (.cells ROW 33 (0, 0)) := by rw [hW1]; exact heap_alloc_new w.drew _
  have hV1 : W1.heap[vb]? = some (.cells (w2 x).toArray 33 (0, 0)) := by rw [hW1]; exact blk_alloc (blk_drew hv) _
  have hG1 : W1.heap[g]? = some (.cells cur 33 (0, 0)) := by rw [hW1]; exact blk_alloc (blk_drew hg) _
  have hB1 : Below w.heap.size w W1 := by rw [hW1]; exact below_alloc (below_drew (Below.refl _ _)) _
  have hcA := hcpA W1 hN1 hV1
  have hN2 := setRow_heap W1 w.heap.size ROW R1 33 (0, 0) hN1
  have hG2 := (setRow_other W1 w.heap.size g R1 (by omega)).trans hG1
  have hB2 := below_setRow hB1 (Nat.le_refl _) R1
  generalize W1.setRow w.heap.size R1 = W2 at hcA hN2 hG2 hB2
  have hcB := hcpB W2.drew (blk_drew hN2) (blk_drew hG2)
  have hN3 := setRow_heap W2.drew w.heap.size R1 R2 33 (0, 0) (blk_drew hN2)
  have hB3 := below_setRow (below_drew hB2) (Nat.le_refl _) R2
  generalize W2.drew.setRow w.heap.size R2 = W3 at hcB hN3 hB3
  have HN3 := Aside0.mk hN3
  have HB3 := Aside0.mk hB3
  have HR2 := Aside0.mk (And.intro hR2s hR2t)
  clear hkk hik hold hROW hG hR1 hR2 hcpA hcpB hN1 hV1 hG1 hB1 hN2 hG2 hB2 hN3 hB3 hW1 hRt hR1t hR2t hR1s hR2s hRs hcs hvs htk hg hv
  have mixed : Try.prog.follows Departure.mixedOrders = true := by kernel_rfl
  go_enter Try.func60, Try.ntmps60
  go_wp2_with (first
    | (at_builtin; refine Lib.wpList_append_run _ rfl _ _ _ _ rfl _ _ rfl rfl _ _ (hrz _) ?_)
    | (at_builtin; refine wpList_copy_runI _ rfl _ _ 24 24 rfl _ _ rfl rfl (hcA _ _) ?_))
  go_region_law_o (refine step_copy_runI rfl _ _ 24 24 rfl (.slice (some ⟨w.heap.size, (i + 1) * 2, none⟩) (l.length + 1 - (i + 1)) (G - (i + 1))) (.slice (some ⟨g, i * 2, none⟩) (l.length - i) (c - i)) (by simp [Act.eval, Act.put]) (by simp [Act.eval, Act.put]) (hcB 3 (G - (i + 1)) (c - i)) ?_)
  go_wp2
  go_ret
  exact ⟨G, rfl, ⟨by rw [wc_len, ins_len _ _ _ hin], .inr ⟨w.heap.size, G, R2, rfl, Nat.le_refl _, HN3.out, hGn, hG63, HR2.out.1, HR2.out.2⟩⟩, HB3.out⟩

open Go.Lib in
set_option maxHeartbeats 8000000 in
set_option maxRecDepth 100000 in
theorem insert_shift (g c i vb : Nat) (l : List S33) (x : S33) (w : World) (cur : Array Value) (hi : i < l.length) (hnc : l.length + 1 ≤ c) (hc63 : c ≤ 9223372036854775807) (hne : vb ≠ g)
    (hg : w.heap[g]? = some (.cells cur 33 (0, 0))) (hcur : cur.size = c * 2) (htk : cur.toList.take (l.length * 2) = wc l) (hv : w.heap[vb]? = some (.cells (w2 x).toArray 33 (0, 0))) :
    Calls Try.prog 60 #[.slice (some ⟨g, 0, none⟩) l.length c, .int .i64 i, .slice (some ⟨vb, 0, none⟩) 1 1] w fun e w' =>
      e = .returned (.slice (some ⟨g, 0, none⟩) (l.length + 1) c) ∧ (∃ cur2 : Array Value, w'.heap[g]? = some (.cells cur2 33 (0, 0)) ∧ cur2.size = c * 2 ∧ cur2.toList.take ((l.length + 1) * 2) = wc (ins l i x)) ∧ KeepBut w w' g none ∧ Below 0 w w' := by
  have hz2 : ¬ ((i : Int) = (l.length : Int)) := by omega
  have hov : ∀ lb cb, (callFunc 64 #[.slice (some ⟨vb, 0, none⟩) 1 1, .slice (some ⟨g, (i + 1) * 2, none⟩) lb cb]).run Try.prog w = .ok (.value (.bool false)) w := fun lb cb => by
    rw [run_callFunc_extern Try.func64 (by kernel_rfl) (by kernel_rfl) (by kernel_rfl) (e := Extern.SlicesOverlaps.overlaps #[24, 24] #[4]) (by kernel_rfl),
      Lib.run_overlaps_apart w 24 4 33 Try.underlying24 2 Try.sizeOf33 ⟨vb, 0, none⟩ ⟨g, (i + 1) * 2, none⟩ 1 1 lb cb hne 33 33 2 cur.size (by simp [World.shape?, hv, w2]) (by simp [World.shape?, hg]) (by omega) (blk_frozen hv 0) (blk_frozen hv 2)]
    rfl
  have hlt2 : (wc l).length = l.length * 2 := wc_len l
  have hcp1 : ∀ ty dc sc, (Builtin.copy_ #[24, 24] ty #[.slice (some ⟨g, (i + 1) * 2, none⟩) (l.length + 1 - (i + 1)) dc, .slice (some ⟨g, i * 2, none⟩) (l.length + 1 - i) sc]).run Try.prog w.drew = .ok (goInt ((l.length - i : Nat) : Int)) (w.drew.setRow g (cur.toList.take ((i + 1) * 2) ++ wc (l.drop i) ++ cur.toList.drop ((i + 1) * 2 + (wc (l.drop i)).length)).toArray) := fun ty dc sc =>
    run_copy_row2 w.drew 24 24 ty 33 g ((i + 1) * 2) (l.length + 1 - (i + 1)) dc ⟨g, i * 2, none⟩ (l.length + 1 - i) sc cur 33 (wc (l.drop i)) Try.underlying24 size33 (blk_drew hg) (l.length - i) ((Nat.min_eq_right (by omega)).trans (by omega)) (by rw [wc_len, List.length_drop]) (fun j v hj => by
      rw [Addr.add_lit, blk_cell (blk_drew hg) _, ← Array.getElem?_toList]
      rw [← wc_drop, List.getElem?_drop, ← htk, List.getElem?_take] at hj
      split at hj
      · exact hj
      · cases hj) (by rw [wc_len, List.length_drop, hcur]; omega) (wc_one _)
  obtain ⟨R1, hR1⟩ : ∃ R1, R1 = (cur.toList.take ((i + 1) * 2) ++ wc (l.drop i) ++ cur.toList.drop ((i + 1) * 2 + (wc (l.drop i)).length)).toArray := ⟨_, rfl⟩
  rw [← hR1] at hcp1
  have hR1s : R1.size = c * 2 := by
    rw [hR1]
    simp [wc_len, hcur]
    omega
  have hR1t : R1.toList.take (i * 2) = wc (l.take i) := by
    rw [hR1]
    simp only [List.append_assoc]
    rw [List.take_append_of_le_length (by rw [List.length_take, Array.length_toList, hcur]; omega), List.take_take, Nat.min_eq_left (by omega), ← wc_take, ← htk, List.take_take, Nat.min_eq_left (by omega)]
  have hR1d : (R1.toList.drop (i * 2 + 2)).take ((l.length - i) * 2) = wc (l.drop i) := by
    rw [hR1]
    simp only [List.append_assoc]
    rw [show i * 2 + 2 = (cur.toList.take ((i + 1) * 2)).length by rw [List.length_take, Array.length_toList, hcur]; omega, List.drop_left' rfl, show (l.length - i) * 2 = (wc (l.drop i)).length by rw [wc_len, List.length_drop]]
    exact List.take_left' rfl
  have hN2 := setRow_heap w.drew g cur R1 33 (0, 0) (blk_drew hg)
  have hV2 := (setRow_other w.drew g vb R1 hne).trans (blk_drew hv)
  have hK2 : KeepBut w (w.drew.setRow g R1) g none := ⟨by simp [World.setRow], fun k hk hkg _ => setRow_other w.drew g k R1 hkg⟩
  have hZ2 : Below 0 w (w.drew.setRow g R1) := below_setRow ((Below.refl 0 w).drew) (Nat.zero_le _) R1
  generalize w.drew.setRow g R1 = W2 at hcp1 hN2 hV2 hK2 hZ2
  have hcp2 : ∀ ty dc, (Builtin.copy_ #[24, 24] ty #[.slice (some ⟨g, i * 2, none⟩) (l.length + 1 - i) dc, .slice (some ⟨vb, 0, none⟩) 1 1]).run Try.prog W2 = .ok (goInt 1) (W2.setRow g (wc (l.take i) ++ w2 x ++ R1.toList.drop (i * 2 + 2)).toArray) := fun ty dc => by
    have h := run_copy_row2 W2 24 24 ty 33 g (i * 2) (l.length + 1 - i) dc ⟨vb, 0, none⟩ 1 1 R1 33 (w2 x) Try.underlying24 size33 hN2 1 (Nat.min_eq_left (by omega)) (by rw [w2_len]) (fun j v hj => by rw [Addr.add_lit, Nat.zero_add, blk_cell hV2 j]; simpa using hj) (by rw [w2_len, hR1s]; omega) (fun v hv => wc_one [x] v (by simpa [wc] using hv))
    rw [hR1t] at h
    exact h
  obtain ⟨R2, hR2⟩ : ∃ R2, R2 = (wc (l.take i) ++ w2 x ++ R1.toList.drop (i * 2 + 2)).toArray := ⟨_, rfl⟩
  rw [← hR2] at hcp2
  have hR2s : R2.size = c * 2 := by
    rw [hR2]
    simp [wc_len, w2_len, hR1s]
    omega
  have hR2t : R2.toList.take ((l.length + 1) * 2) = wc (ins l i x) := by
    rw [hR2, wc_ins, ← List.append_assoc, show (l.length + 1) * 2 = (wc (l.take i) ++ w2 x).length + (l.length - i) * 2 by rw [List.length_append, wc_len, w2_len, List.length_take]; omega]
    show List.take _ (wc (l.take i) ++ w2 x ++ R1.toList.drop (i * 2 + 2)) = _
    rw [List.take_length_add_append, hR1d]
  have hN3 := setRow_heap W2 g R1 R2 33 (0, 0) hN2
  have hK3 : KeepBut w (W2.setRow g R2) g none := ⟨by have := hK2.1; simpa [World.setRow] using this, fun k hk hkg hr => (setRow_other W2 g k R2 hkg).trans (hK2.2 k hk hkg hr)⟩
  have hZ3 : Below 0 w (W2.setRow g R2) := below_setRow hZ2 (Nat.zero_le _) R2
  generalize W2.setRow g R2 = W3 at hcp2 hN3 hK3 hZ3
  have HF := Aside0.mk (And.intro hN3 (And.intro hR2s (And.intro hR2t (And.intro hK3 hZ3))))
  have hb2 : ¬ (c = i + 1) := by omega
  have hb4 : ¬ (c = i) := by omega
  have hw1 : IntKind.i64.wrap ((i : Int) + 1) = (i : Int) + 1 := by rw [IntKind.wrap_i64]; omega
  have hb1 : (0 : Int) ≤ (i : Int) + 1 := by omega
  have hin : i ≤ l.length := by omega
  have htn : ((i : Int) + 1).toNat = i + 1 := by omega
  have hb3 : (i : Int) ≤ (l.length : Int) + 1 := by omega
  have hb5 : ¬ ((c : Int) < (l.length : Int) + 1) := by omega
  clear hN2 hV2 hK2 hN3 hK3 hZ2 hZ3 hR1 hR2 hR1s hR2s hR1t hR1d hR2t hg hv htk hcur hlt2
  have mixed : Try.prog.follows Departure.mixedOrders = true := by kernel_rfl
  go_enter Try.func60, Try.ntmps60
  go_wp2_with (simp only [hov])
  go_region_law_o (refine step_copy_runI rfl _ _ 24 24 rfl (.slice (some ⟨g, (i + 1) * 2, none⟩) (l.length + 1 - (i + 1)) (c - (i + 1))) (.slice (some ⟨g, i * 2, none⟩) (l.length + 1 - i) (c - i)) (by simp [Act.eval, Act.put]) (by simp [Act.eval, Act.put]) (hcp1 3 (c - (i + 1)) (c - i)) ?_)
  go_wp2_with (at_builtin; refine wpList_copy_runI _ rfl _ _ 24 24 rfl _ _ rfl rfl (hcp2 _ _) ?_)
  go_ret
  exact ⟨rfl, ⟨R2, HF.out.1, HF.out.2.1, HF.out.2.2.1⟩, HF.out.2.2.2⟩

theorem ins_end (l : List S33) (x : S33) : ins l l.length x = l ++ [x] := by simp [ins]
set_option maxHeartbeats 8000000 in
set_option maxRecDepth 100000 in
theorem insert_end (base : Nat) (v : Value) (l : List S33) (x : S33) (w : World) (hlim : l.length ≤ LIM) (hbase : base ≤ w.heap.size) (h : w.ownsRow base 33 2 v l.length (wc l)) :
    Calls Try.prog 60 #[v, .int .i64 l.length, .slice (some ⟨w.heap.size, 0, none⟩) 1 1] (w.alloc (.cells (w2 x).toArray 33)) fun e w' => ∃ v', e = .returned v' ∧ w'.ownsRow base 33 2 v' (l.length + 1) (wc (l ++ [x])) ∧ w.grownBy w' v.ownBlock := by
  have HN := Aside0.mk (N33_of_own h)
  have HL := Aside0.mk hlim
  have HB := Aside0.mk hbase
  obtain ⟨A, c, rfl⟩ := Kd.N_slice HN.out
  have hnc : l.length ≤ c := (Kd.N_reads' HN.out).2.1
  have hlm : l.length ≤ 9223372036854775807 := by unfold LIM at hlim; omega
  clear h hlim hbase
  have hb4 : c = l.length ∨ ¬ (c = l.length) := by omega
  have mixed : Try.prog.follows Departure.mixedOrders = true := by kernel_rfl
  have hr0 : (0 : Int) ≤ (l.length : Int) := by omega
  go_enter Try.func60, Try.ntmps60
  rcases hb4 with hb4 | hb4
  all_goals
    go_wp2_with ((with_reducible refine gate_builtin (b := .append) (xs := #[.tmp 23, .tmp 24]) rfl ?_); at_builtin; refine Kd.N_append k33 (w0 := w) base rfl (.tmp 23) (.tmp 24) 24 33 _ 16 rfl Try.underlying24 info33 rfl (by decide) (by decide) (.slice A l.length c) l x (w2 x) (fun k => base ≤ k) (fun _ => False) rfl rfl (k33_mkF _ _ x) (fun _ hk => hk.elim) (fun k hk => Nat.le_trans HB.out hk) HN.out (Below.refl _ _) HB.out (by have h9 := HL.out; unfold LIM at h9; omega) ?_; intro v1 w1 hN1 hB1 hG1 hat; have H1 := Aside0.mk (And.intro hN1 hG1); clear hN1 hB1 hG1 hat)
    go_ret
    exact ⟨_, rfl, by have := own_of_N33 H1.out.1; rwa [List.length_append] at this, H1.out.2⟩

theorem insert_walk (base i : Nat) (v : Value) (l : List S33) (x : S33) (w : World) (hi : i ≤ l.length) (hlim : l.length ≤ LIM) (hbase : base ≤ w.heap.size) (h : w.ownsRow base 33 2 v l.length (wc l)) :
    Calls Try.prog 60 #[v, .int .i64 i, .slice (some ⟨w.heap.size, 0, none⟩) 1 1] (w.alloc (.cells (w2 x).toArray 33)) fun e w' => ∃ v', e = .returned v' ∧ w'.ownsRow base 33 2 v' (ins l i x).length (wc (ins l i x)) ∧ Below 0 w w' ∧ w.heap.size ≤ w'.heap.size ∧ ∀ k, k < w.heap.size → some k ≠ v.ownBlock → w'.heap[k]? = w.heap[k]? := by
  rw [ins_len _ _ _ hi]
  rcases Nat.lt_or_ge i l.length with hlt | hge
  · obtain ⟨h1, h2⟩ := h
    rcases h2 with ⟨_, h2⟩ | ⟨g, c, cur, rfl, hg, hh, hn, hc, hs, ht⟩
    · omega
    · have hgl := blk_lt hh
      have hh2 : (w.alloc (.cells (w2 x).toArray 33)).heap[g]? = some (.cells cur 33 (0, 0)) := blk_alloc hh _
      have hv2 : (w.alloc (.cells (w2 x).toArray 33)).heap[w.heap.size]? = some (.cells (w2 x).toArray 33 (0, 0)) := heap_alloc_new w _
      rcases Nat.lt_or_ge c (l.length + 1) with hr | hr
      · refine (insert_grow g c i w.heap.size l x _ cur hlt hn hr hlim hh2 hs ht hv2).mono ?_
        rintro e w' ⟨G, rfl, ho, hb⟩
        have hsz : (w.alloc (.cells (w2 x).toArray 33)).heap.size = w.heap.size + 1 := by simp
        refine ⟨_, rfl, own_weaken ho (by omega), ((Below.refl 0 w).alloc (Nat.zero_le _) _).trans (hb.mono (Nat.zero_le _)), by have := hb.size; omega, fun k hk _ => ?_⟩
        exact (hb.block k (by omega)).trans (Below.heap_alloc w _ k hk)
      · refine (insert_shift g c i w.heap.size l x _ cur hlt hr hc (by omega) hh2 hs ht hv2).mono ?_
        rintro e w' ⟨rfl, ⟨cur2, hc2, hs2, ht2⟩, hk2, hz2⟩
        refine ⟨_, rfl, ⟨by rw [wc_len, ins_len _ _ _ hi], .inr ⟨g, c, cur2, rfl, hg, hc2, hr, hc, hs2, ht2⟩⟩, ((Below.refl 0 w).alloc (Nat.zero_le _) _).trans hz2, by have := hk2.1; simp at this; omega, fun k hk hne => ?_⟩
        exact (hk2.2 k (by simp; omega) (fun e => hne (by rw [e]; rfl)) (by simp)).trans (Below.heap_alloc w _ k hk)
  · obtain rfl : i = l.length := by omega
    refine (insert_end base v l x w hlim hbase h).mono ?_
    rintro e w' ⟨v', rfl, ho, hg⟩
    exact ⟨v', rfl, by rw [ins_end]; exact ho, ⟨hg.os, hg.tape, hg.output, hg.size, fun k hk => absurd hk (Nat.not_lt_zero _)⟩, hg.size, fun k hk hne => hg.block k hk hne⟩
end Go.Proofs.Ytfojpobblebigaa.P
