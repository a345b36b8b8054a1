/- Merged: nest.Find: function 17. | Written by pp.py (this session's program over the kit's printer): functions, contracts. Not trusted: Lean checks it. | Written by pp.py (this session's program over the kit's printer): functions, contracts. Not trusted: Lean checks it. | Written by pp.py (this session's program over the kit's printer): functions, contracts. Not trusted: Lean checks it. | Plain theory of package nest: how reads and writes of a level are found, before and behind its steps. | Written by pp.py (this session's program over the kit's printer): functions, contracts. Not trusted: Lean checks it. | Written by pp.py (this session's program over the kit's printer): functions, contracts. Not trusted: Lean checks it. -/
import Derived.Test.YtfojpobblebigaaYM1
import Derived.Test.YtfojpobblebigaaYM0
namespace Go.Proofs.Ytfojpobblebigaa.P
open Go.RowKit Go.Shelf Go.Proofs.YtfojpobblebigaaW.PrintWords Go.Proofs.YtfojpobblebigaaW.PrintLast Go.Proofs.YtfojpobblebigaaW.PrintMore
attribute [local go_sem] Oper.semAt_some
set_option linter.unusedVariables false
set_option linter.unusedSimpArgs false

set_option maxRecDepth 100000 in
set_option maxHeartbeats 4000000 in
/-- The closure, at no level. -/
theorem back0 (F : Fence) (f : Nat) (h62 : F.fn 62) (hro : F.round = none) (l Bs : Nat) (A : Option Addr) (cap : Nat) (J : List (Fin 0) → World → Prop) (W : World) (hBs : W.cell? ⟨Bs, 0, none⟩ = some (.slice A 0 cap)) (h0 : J [] W) :
    CallsIn F f Try.prog 62 #[.func (.yield l) #[] #[], .pointer (some ⟨Bs, 0, none⟩)] W fun e W' => (∃ v, e = .returned v) ∧ J [] W' := by
  refine callsIn_of_wp Try.func62 rfl h62 ?_ hro
  simp only [Try.ntmps62, List.size_toArray, List.length_cons, List.length_nil, Nat.reduceAdd, Nat.reduceSub, Array.replicate_succ, Array.replicate_zero, List.push_toArray, List.append_toArray, List.nil_append, List.cons_append]
  gi_wp2
  gi_loopw [3] (fun i wr => i = .int .i64 (-1) ∧ J [] wr) (fun _ _ => 0)
  case atStart => exact ⟨rfl, h0⟩
  case round =>
    obtain ⟨rfl, hJs⟩ := hrel
    gi_wp2
    go_end0
    exact ⟨⟨_, rfl⟩, hJs⟩

/-- What a world bears of a slice of levels: none, or their cells. -/
def LAt (n₀ : Nat) (W : World) (A : Option Addr) (n : Nat) (D : Nat → Value × Value × Value) : Prop := n = 0 ∨ ∃ ad, A = some ad ∧ LRow n₀ W ad n D
theorem LAt.below {n₀ : Nat} {W W' : World} {A : Option Addr} {n : Nat} {D : Nat → Value × Value × Value} (h : Below n₀ W W') : LAt n₀ W A n D → LAt n₀ W' A n D
  | .inl e => .inl e
  | .inr ⟨ad, e, hl⟩ => .inr ⟨ad, e, hl.below h⟩

theorem back_stops (F : Fence) (f : Nat) (h62 : F.fn 62) (hro : F.round = none) (hn : 1 ≤ f) (Bs n cap : Nat) (A : Option Addr) (D : Nat → Value × Value × Value) (hmax : n ≤ 9223372036854775807) (w : World) (hBw : Bs < w.heap.size) (hc : w.cell? ⟨Bs, 0, none⟩ = some (.slice A n cap)) (hL : LAt w.heap.size w A n D) :
    SeqStopsK F f Try.prog 62 #[.pointer (some ⟨Bs, 0, none⟩)] (fun x : Fin n => encL D x.1) (Below w.heap.size) (fun ys => ys = dn n 0) (fun pre => ∃ k, k < n ∧ pre = dn n k) n w := by
  intro l J Jx W hW _ _ hY h0
  rcases hL with rfl | ⟨ad, rfl, hL⟩
  · refine (back0 F f h62 hro l Bs A cap J W ((hW.cell (p := ⟨Bs, 0, none⟩) hBw).trans hc) h0).mono ?_
    rintro e W' ⟨he, hj⟩
    exact ⟨he, .inl ⟨_, rfl, by rw [dn_nil]; exact hj⟩⟩
  · exact back1 F f h62 hro hn l Bs w.heap.size ad n cap D hmax J Jx hY W hBw ((hW.cell (p := ⟨Bs, 0, none⟩) hBw).trans hc) (hL.below hW) h0

/-! ### nest.Find -/
def missW (l : List S62) (loc : Int) (i : Nat) : Prop := (l.getD i z62).f1.find? (fun y => y.f0 == loc) = none
def missR (l : List S62) (loc : Int) (i : Nat) : Prop := (l.getD i z62).f0.find? (fun y => y.f0 == loc) = none
def findL (l : List S62) (loc : Int) : Int × Int × Int :=
  match l.reverse.findSome? (fun x => x.f1.find? (fun y => y.f0 == loc)) with
  | some y => (y.f1, 0, 1)
  | none => match l.reverse.findSome? (fun x => x.f0.find? (fun y => y.f0 == loc)) with
    | some s => (s.f2, s.f1, 2)
    | none => (0, 0, 0)
theorem findL_wrote {l : List S62} {loc : Int} {y : S33} (h : l.reverse.findSome? (fun x => x.f1.find? (fun y => y.f0 == loc)) = some y) : findL l loc = (y.f1, 0, 1) := by
  unfold findL; rw [h]
theorem findL_read {l : List S62} {loc : Int} {s : S30} (h : l.reverse.findSome? (fun x => x.f1.find? (fun y => y.f0 == loc)) = none) (h2 : l.reverse.findSome? (fun x => x.f0.find? (fun y => y.f0 == loc)) = some s) : findL l loc = (s.f2, s.f1, 2) := by
  unfold findL; simp only [h, h2]
theorem findL_none {l : List S62} {loc : Int} (h : l.reverse.findSome? (fun x => x.f1.find? (fun y => y.f0 == loc)) = none) (h2 : l.reverse.findSome? (fun x => x.f0.find? (fun y => y.f0 == loc)) = none) : findL l loc = (0, 0, 0) := by
  unfold findL; simp only [h, h2]
theorem findSome_rev {α β : Type} (f : α → Option β) (l : List α) (d : α) (k : Nat) (hk : k < l.length) (b : β) (h : f (l.getD k d) = some b) (hm : ∀ j, k < j → j < l.length → f (l.getD j d) = none) : l.reverse.findSome? f = some b := by
  have e : l = l.take k ++ l[k] :: l.drop (k + 1) := by rw [← List.drop_eq_getElem_cons hk, List.take_append_drop]
  have hg : l.getD k d = l[k] := by rw [List.getD_eq_getElem?_getD, List.getElem?_eq_getElem hk]; rfl
  rw [e, List.reverse_append, List.reverse_cons, List.append_assoc, List.findSome?_append]
  have hn : (l.drop (k + 1)).reverse.findSome? f = none := by
    rw [List.findSome?_eq_none_iff]
    intro x hx
    rw [List.mem_reverse] at hx
    obtain ⟨j, hj, rfl⟩ := List.getElem_of_mem hx
    rw [List.length_drop] at hj
    have := hm (k + 1 + j) (by omega) (by omega)
    rw [List.getD_eq_getElem?_getD, List.getElem?_eq_getElem (by omega)] at this
    simpa using this
  rw [hn, Option.none_or, List.singleton_append, List.findSome?_cons, ← hg, h]
theorem findSome_rev_none {α β : Type} (f : α → Option β) (l : List α) (d : α) (hm : ∀ j, j < l.length → f (l.getD j d) = none) : l.reverse.findSome? f = none := by
  rw [List.findSome?_eq_none_iff]
  intro x hx
  rw [List.mem_reverse] at hx
  obtain ⟨j, hj, rfl⟩ := List.getElem_of_mem hx
  have := hm j hj
  rwa [List.getD_eq_getElem?_getD, List.getElem?_eq_getElem hj] at this
theorem mem_dn {n k : Nat} {x : Fin n} : x ∈ dn n k ↔ k ≤ x.1 := by
  unfold dn
  rw [List.mem_reverse, List.mem_iff_getElem]
  constructor
  · rintro ⟨i, hi, rfl⟩
    simp
  · intro h
    refine ⟨x.1 - k, by simp; omega, ?_⟩
    apply Fin.ext
    simp; omega

set_option maxHeartbeats 1000000 in
theorem back_in (F : Fence) (f : Nat) (h46 : F.fn 46) (hro : F.round = none) (A : Option Addr) (n c : Nat) (w : World) :
    CallsIn F f Try.prog 46 #[.slice A n c] w fun e w' => e = .returned (.func (.func 62) #[] #[.pointer (some ⟨w.heap.size, 0, none⟩)]) ∧ w' = w.alloc (.cells #[.slice A n c] 22) := by
  refine callsIn_of_wp Try.func46 rfl h46 ?_ hro
  simp only [Try.ntmps46, List.size_toArray, List.length_cons, List.length_nil, Nat.reduceAdd, Nat.reduceSub, Array.replicate_succ, Array.replicate_zero, List.push_toArray, List.append_toArray, List.nil_append, List.cons_append]
  gi_wp2
  go_ret
  exact ⟨rfl, rfl⟩

theorem keepsFrom_below {B : Nat} {W W' : World} (h : Below W.heap.size W W') : KeepsFrom B W W' :=
  ⟨h.size, fun k o _ hk _ => (h.block k (Array.getElem?_eq_some_iff.1 hk).1).trans hk⟩
theorem boxed_below {W W' : World} {B : Nat} {t : TypeId} {v : Value} (hb : Boxed W B t v) (h : Below W.heap.size W W') : Boxed W' B t v := (h.block B hb.lt).trans hb

/-- What the levels' rows bear, wherever what lay at the begin lies on. -/
structure Lv (w : World) (A : Option Addr) (l : List S62) (D : Nat → Value × Value × Value) : Prop where
  at_ : ∀ i, i < l.length → ∃ ad A0 c0 A1 c1, A = some ad ∧ ad.block < w.heap.size ∧ (D i).1 = .slice A0 (l.getD i z62).f0.length c0 ∧ (D i).2.1 = .slice A1 (l.getD i z62).f1.length c1 ∧ (∃ A2 c2, (D i).2.2 = .slice A2 (l.getD i z62).f2.length c2) ∧
    w.cell? (ad.add (i * 3)) = some (D i).1 ∧ w.cell? ⟨(ad.add (i * 3)).block, (ad.add (i * 3)).off + 1, none⟩ = some (D i).2.1 ∧ w.cell? ⟨(ad.add (i * 3)).block, (ad.add (i * 3)).off + 2, none⟩ = some (D i).2.2 ∧
    Kd.C k30 w A0 (l.getD i z62).f0.length (l.getD i z62).f0 ∧ Kd.C k33 w A1 (l.getD i z62).f1.length (l.getD i z62).f1
theorem cell_lt {w : World} {p : Addr} {v : Value} (h : w.cell? p = some v) : p.block < w.heap.size := by
  unfold World.cell? at h
  by_cases hlt : p.block < w.heap.size
  · exact hlt
  · simp [hlt] at h
theorem lv_of {w : World} {A : Option Addr} {l : List S62} (h : Kd.C k62 w A l.length l) : ∃ D, Lv w A l D := by
  have hF := Kd.C_F k62_heap h
  have : ∀ i : Nat, ∃ D : Value × Value × Value, i < l.length → ∃ ad A0 c0 A1 c1, A = some ad ∧ ad.block < w.heap.size ∧ D.1 = .slice A0 (l.getD i z62).f0.length c0 ∧ D.2.1 = .slice A1 (l.getD i z62).f1.length c1 ∧ (∃ A2 c2, D.2.2 = .slice A2 (l.getD i z62).f2.length c2) ∧
    w.cell? (ad.add (i * 3)) = some D.1 ∧ w.cell? ⟨(ad.add (i * 3)).block, (ad.add (i * 3)).off + 1, none⟩ = some D.2.1 ∧ w.cell? ⟨(ad.add (i * 3)).block, (ad.add (i * 3)).off + 2, none⟩ = some D.2.2 ∧
    Kd.C k30 w A0 (l.getD i z62).f0.length (l.getD i z62).f0 ∧ Kd.C k33 w A1 (l.getD i z62).f1.length (l.getD i z62).f1 := by
    intro i
    by_cases hi : i < l.length
    · obtain ⟨ad, A0, c0, A1, c1, A2, c2, e, e0, e1, e2, _, f0, _, f1, _, _⟩ := F62_at hF i hi
      refine ⟨(_, _, _), fun _ => ⟨ad, A0, c0, A1, c1, e, ?_, rfl, rfl, ⟨A2, c2, rfl⟩, e0, e1, e2, Kd.F_now f0, Kd.F_now f1⟩⟩
      have := cell_lt e0
      rwa [add_block] at this
    · exact ⟨(undef, undef, undef), fun h => absurd h hi⟩
  obtain ⟨D, hD⟩ := Classical.axiomOfChoice this
  exact ⟨D, ⟨hD⟩⟩
theorem Lv.lat {w : World} {A : Option Addr} {l : List S62} {D : Nat → Value × Value × Value} (h : Lv w A l D) : LAt w.heap.size w A l.length D := by
  by_cases hn : l.length = 0
  · exact .inl hn
  · obtain ⟨ad, A0, c0, A1, c1, e, hb, _, _, _, _, _, _, _, _⟩ := h.at_ 0 (by omega)
    refine .inr ⟨ad, e, hb, fun i hi => ?_⟩
    obtain ⟨ad', A0', c0', A1', c1', e', _, _, _, _, q0, q1, q2, _, _⟩ := h.at_ i hi
    rw [e] at e'
    cases e'
    exact ⟨q0, q1, q2⟩
theorem LAt.up {n₀ n₁ : Nat} {w : World} {A : Option Addr} {n : Nat} {D : Nat → Value × Value × Value} (hn : n₀ ≤ n₁) : LAt n₀ w A n D → LAt n₁ w A n D
  | .inl e => .inl e
  | .inr ⟨ad, e, hb, hl⟩ => .inr ⟨ad, e, Nat.lt_of_lt_of_le hb hn, hl⟩

theorem find_hit {α : Type} (g : α → Int) (zs : List α) (d : α) (loc : Int) (k : Nat) (hk : k < zs.length) (hm : ∀ j, j < k → g (zs.getD j d) ≠ loc) (h : g (zs.getD k d) = loc) : zs.find? (fun y => g y == loc) = some (zs.getD k d) := by
  have hg : zs.getD k d = zs[k] := by rw [List.getD_eq_getElem?_getD, List.getElem?_eq_getElem hk]; rfl
  rw [List.find?_eq_some_iff_getElem]
  refine ⟨by simpa using h, k, hk, hg.symm, fun j hj => ?_⟩
  have := hm j hj
  rw [List.getD_eq_getElem?_getD, List.getElem?_eq_getElem (by omega)] at this
  simpa using this
theorem find_miss {α : Type} (g : α → Int) (zs : List α) (d : α) (loc : Int) (hm : ∀ j, j < zs.length → g (zs.getD j d) ≠ loc) : zs.find? (fun y => g y == loc) = none := by
  rw [List.find?_eq_none]
  intro x hx
  obtain ⟨j, hj, rfl⟩ := List.getElem_of_mem hx
  have := hm j hj
  rw [List.getD_eq_getElem?_getD, List.getElem?_eq_getElem hj] at this
  simpa using this
theorem blk_own {X Y : World} {row : Option Nat} {g B t : Nat} {cells : Array Value} (h : X.heap[g]? = some (.cells cells t (0, 0))) (hg : X.grownBy Y row) (hr : ∀ r, row = some r → B ≤ r ∧ ∃ o : Obj, X.heap[r]? = some o ∧ o.isCells = false) : Y.heap[g]? = some (.cells cells t (0, 0)) :=
  (hg.block g (Array.getElem?_eq_some_iff.1 h).1 (fun e => by obtain ⟨_, o, ho, hc⟩ := hr g e.symm; rw [h] at ho; cases ho; cases hc)).trans h
/-- What lies behind a hit among the writes. -/
def Hit1 (l : List S62) (loc : Int) (w : World) (c : Code) (pre : List (Fin l.length)) (W : World) : Prop :=
  (((c = .ret ∧ (∃ (p : List (Fin l.length)) (x : Fin l.length), pre = p ++ [x] ∧ (∀ z ∈ p, missW l loc z.1) ∧ ∃ y, (l.getD x.1 z62).f1.find? (fun y => y.f0 == loc) = some y ∧ Boxed W (w.heap.size + 1) 3 (.int .i64 y.f1))) ∧ Boxed W (w.heap.size + 2) 3 (.int .i64 0)) ∧ Boxed W (w.heap.size + 3) 3 (.int .i64 1)) ∧ Below w.heap.size w W
def Hit2 (l : List S62) (loc : Int) (w : World) (D1 : Nat) (c : Code) (pre : List (Fin l.length)) (W : World) : Prop :=
  ((c = .ret ∧ (∃ (p : List (Fin l.length)) (x : Fin l.length), pre = p ++ [x] ∧ (∀ z ∈ p, missR l loc z.1) ∧ ∃ y, (l.getD x.1 z62).f0.find? (fun y => y.f0 == loc) = some y ∧ Boxed W (w.heap.size + 1) 3 (.int .i64 y.f2) ∧ Boxed W (w.heap.size + 2) 3 (.int .i64 y.f1))) ∧ Boxed W (w.heap.size + 3) 3 (.int .i64 2)) ∧ Below w.heap.size w W ∧ W.heap[D1]? = some (.deferred (some []))
theorem hit2_own (l : List S62) (loc : Int) (w : World) (D1 : Nat) (c : Code) (B : Nat) (hB : w.heap.size ≤ B) (hD : D1 < B) : OwnFrom B (Hit2 l loc w D1 c) := by
  rintro s X Y row ⟨⟨⟨rfl, p, x, rfl, hp, y, hy, b1, b2⟩, b3⟩, hb, hd⟩ hg hr
  have h := fun r e => (hr r e).2
  exact ⟨⟨⟨rfl, p, x, rfl, hp, y, hy, boxed_own _ 3 (fun (_ : Unit) => Value.int .i64 y.f2) () X Y row b1 hg h, boxed_own _ 3 (fun (_ : Unit) => Value.int .i64 y.f1) () X Y row b2 hg h⟩, boxed_own _ 3 (fun (_ : Unit) => Value.int .i64 2) () X Y row b3 hg h⟩, ownFrom_below (β := Unit) (Nat.le_refl _) hB () X Y row hb hg hr, (hg.block D1 (Array.getElem?_eq_some_iff.1 hd).1 (fun e => by have := (hr D1 e.symm).1; omega)).trans hd⟩
theorem hit_keep {W : World} {b D1 : Nat} {u1 u2 u3 : Value} {o : Obj} (h1 : D1 ≠ b + 1) (h2 : D1 ≠ b + 2) (h3 : D1 ≠ b + 3) (h : W.heap[D1]? = some (.deferred (some []))) :
    ((((W.setCell ⟨b + 1, 0, none⟩ u1).setCell ⟨b + 2, 0, none⟩ u2).setCell ⟨b + 3, 0, none⟩ u3).alloc o).drew.heap[D1]? = some (.deferred (some [])) := by
  have e1 := (Below.heap_setCell W ⟨b + 1, 0, none⟩ u1 D1 h1).trans h
  have e2 := (Below.heap_setCell _ ⟨b + 2, 0, none⟩ u2 D1 h2).trans e1
  have e3 := (Below.heap_setCell _ ⟨b + 3, 0, none⟩ u3 D1 h3).trans e2
  exact (Below.heap_alloc _ o D1 (Array.getElem?_eq_some_iff.1 e3).1).trans e3
/-- The way out behind both loops. -/
theorem find_end {F : Fence} {f : Nat} {w V : World} {D1 D2 : Nat} {a b c : Int} {r : Value} {tmps : Array Value} (hne : D2 ≠ D1) (h1 : w.heap.size ≤ D1) (h2 : w.heap.size ≤ D2) (hK2 : V.heap[D2]? = some (.deferred (some []))) (hK1 : V.heap[D1]? = some (.deferred (some [])))
    (b1 : Boxed V (w.heap.size + 1) 3 (.int .i64 a)) (b2 : Boxed V (w.heap.size + 2) 3 (.int .i64 b)) (b3 : Boxed V (w.heap.size + 3) 3 (.int .i64 c)) (hb : Below w.heap.size w V) (hr : r = .tuple #[.int .i64 a, .int .i64 b, .int .i64 c])
    (t4 : tmps[4]? = some (.pointer (some ⟨w.heap.size + 1, 0, none⟩)) := by rfl) (t5 : tmps[5]? = some (.pointer (some ⟨w.heap.size + 2, 0, none⟩)) := by rfl) (t6 : tmps[6]? = some (.pointer (some ⟨w.heap.size + 3, 0, none⟩)) := by rfl) :
    bodyPostM F f Try.prog Try.f17 (fun e W' => e = .returned r ∧ Below w.heap.size w W') .ret { tmps := tmps, defers := [{ target := .collected D2, args := #[] }, { target := .collected D1, args := #[] }] } V := by
  refine ⟨by simp, .inl ⟨_, _, rfl, run_takeDeferred hK2, ?_⟩⟩
  have hK1' : (V.putObj D2 (.deferred none)).heap[D1]? = some (.deferred (some [])) := (World.putObj_heap_other (by omega)).trans hK1
  refine ⟨by simp, .inl ⟨_, _, rfl, run_takeDeferred hK1', ?_⟩⟩
  have hc1 := cell_kept (cell_kept b1.cell (grownBy_putObj' _ D2 (.deferred none)) (fun r e => by cases e; exact ⟨_, hK2, rfl⟩)) (grownBy_putObj' _ D1 (.deferred none)) (fun r e => by cases e; exact ⟨_, hK1', rfl⟩)
  have hc2 := cell_kept (cell_kept b2.cell (grownBy_putObj' _ D2 (.deferred none)) (fun r e => by cases e; exact ⟨_, hK2, rfl⟩)) (grownBy_putObj' _ D1 (.deferred none)) (fun r e => by cases e; exact ⟨_, hK1', rfl⟩)
  have hc3 := cell_kept (cell_kept b3.cell (grownBy_putObj' _ D2 (.deferred none)) (fun r e => by cases e; exact ⟨_, hK2, rfl⟩)) (grownBy_putObj' _ D1 (.deferred none)) (fun r e => by cases e; exact ⟨_, hK1', rfl⟩)
  refine ⟨.tuple #[.int .i64 a, .int .i64 b, .int .i64 c], ?_, by rw [hr], (hb.trans (belowK_b (w := w) (Nat.le_refl _) V D2 _ _ h2 hK2 rfl rfl)).trans (belowK_b (w := w) (Nat.le_refl _) _ D1 _ _ h1 hK1' rfl rfl)⟩
  simp [results, Try.f17, go_sem, t4, t5, t6, hc1, hc2, hc3]
theorem hit1_own (l : List S62) (loc : Int) (w : World) (c : Code) (B : Nat) (hB : w.heap.size ≤ B) : OwnFrom B (Hit1 l loc w c) := by
  rintro s X Y row ⟨⟨⟨⟨rfl, p, x, rfl, hp, y, hy, b1⟩, b2⟩, b3⟩, hb⟩ hg hr
  have h := fun r e => (hr r e).2
  exact ⟨⟨⟨⟨rfl, p, x, rfl, hp, y, hy, boxed_own _ 3 (fun (_ : Unit) => Value.int .i64 y.f1) () X Y row b1 hg h⟩, boxed_own _ 3 (fun (_ : Unit) => Value.int .i64 0) () X Y row b2 hg h⟩, boxed_own _ 3 (fun (_ : Unit) => Value.int .i64 1) () X Y row b3 hg h⟩, ownFrom_below (β := Unit) (Nat.le_refl _) hB () X Y row hb hg hr⟩

set_option maxRecDepth 100000 in
set_option maxHeartbeats 16000000 in
theorem find_in (F : Fence) (f : Nat) (h17 : F.fn 17) (h46 : F.fn 46) (h62 : F.fn 62) (hro : F.round = none) (hn : 6 ≤ f) (A : Option Addr) (c : Nat) (l : List S62) (loc : Int) (w : World) (hr : Kd.C k62 w A l.length l) :
    CallsIn F f Try.prog 17 #[.slice A l.length c, .int .i64 loc] w fun e W' => e = .returned (.tuple #[.int .i64 (findL l loc).1, .int .i64 (findL l loc).2.1, .int .i64 (findL l loc).2.2]) ∧ Below w.heap.size w W' := by
  have h1 : 1 ≤ f := by omega
  have hmax : l.length ≤ 9223372036854775807 := hr.2.1
  obtain ⟨D, hD⟩ := lv_of hr
  have HD := Aside0.mk hD
  clear hr hD
  refine callsIn_of_wp_marks Try.func17 rfl h17 ?_ hro
  simp only [Try.ntmps17, List.size_toArray, List.length_cons, List.length_nil, Nat.reduceAdd, Nat.reduceSub, Array.replicate_succ, Array.replicate_zero, List.push_toArray, List.append_toArray, List.nil_append, List.cons_append]
  gi_wp2_with (gi_at_call 46; refine (back_in F (f - 1) h46 hro _ _ _ _).mono ?_; rintro e w' ⟨rfl, rfl⟩)
  obtain ⟨W0, hW0⟩ : ∃ W0, (((((w.alloc (.cells #[.int .i64 loc] 3)).alloc (.cells #[.int .i64 0] 3)).alloc (.cells #[.int .i64 0] 3)).alloc (.cells #[.int .i64 0] 3)).alloc (.cells #[.slice A l.length c] 22)) = W0 := ⟨_, rfl⟩
  have hB0 : Below w.heap.size w W0 := by rw [← hW0]; exact below_alloc (below_alloc (below_alloc (below_alloc (below_alloc (Below.refl _ _) _) _) _) _) _
  have hsz : W0.heap.size = w.heap.size + 5 := by rw [← hW0]; simp
  have bL : Boxed W0 w.heap.size 3 (.int .i64 loc) := by rw [← hW0]; exact ((((Boxed.new w 3 (.int .i64 loc)).alloc _).alloc _).alloc _).alloc _
  have bV : Boxed W0 (w.heap.size + 1) 3 (.int .i64 0) := by
    rw [← hW0]
    have := (((Boxed.new (w.alloc (.cells #[.int .i64 loc] 3)) 3 (.int .i64 0)).alloc (.cells #[.int .i64 0] 3)).alloc (.cells #[.int .i64 0] 3)).alloc (.cells #[.slice A l.length c] 22)
    simpa only [World.size_alloc] using this
  have bU : Boxed W0 (w.heap.size + 2) 3 (.int .i64 0) := by
    rw [← hW0]
    have := ((Boxed.new ((w.alloc (.cells #[.int .i64 loc] 3)).alloc (.cells #[.int .i64 0] 3)) 3 (.int .i64 0)).alloc (.cells #[.int .i64 0] 3)).alloc (.cells #[.slice A l.length c] 22)
    simpa only [World.size_alloc] using this
  have bH : Boxed W0 (w.heap.size + 3) 3 (.int .i64 0) := by
    rw [← hW0]
    have := (Boxed.new (((w.alloc (.cells #[.int .i64 loc] 3)).alloc (.cells #[.int .i64 0] 3)).alloc (.cells #[.int .i64 0] 3)) 3 (.int .i64 0)).alloc (.cells #[.slice A l.length c] 22)
    simpa only [World.size_alloc] using this
  have bS : Boxed W0 (w.heap.size + 4) 22 (.slice A l.length c) := by
    rw [← hW0]
    have := Boxed.new ((((w.alloc (.cells #[.int .i64 loc] 3)).alloc (.cells #[.int .i64 0] 3)).alloc (.cells #[.int .i64 0] 3)).alloc (.cells #[.int .i64 0] 3)) 22 (.slice A l.length c)
    simpa only [World.size_alloc] using this
  simp only [World.size_alloc, Nat.add_assoc, Nat.reduceAdd] at hW0 ⊢
  rw [hW0]
  clear hW0
  have hla : LAt W0.heap.size W0 A l.length D := (HD.out.lat.below hB0).up hB0.size
  refine wpIn_rangeFunc_ownH hro h1 (gf := 62) (lb := #[.pointer (some ⟨w.heap.size + 4, 0, none⟩)]) rfl h62 (enters_of Try.func62 (by kernel_rfl) rfl)
    (back_stops F (f - 1) h62 hro (by omega) (w.heap.size + 4) l.length c A D hmax W0 (by omega) bS.cell hla) belowK_t (belowK_b (Nat.le_refl _)) (Below.refl _ _) (fun _ => rfl)
    (fun pre W => (∀ x ∈ pre, missW l loc x.1) ∧ Below W0.heap.size W0 W)
    (fun c pre W => Hit1 l loc w c pre W)
    (OwnFrom.and (ownFrom_pure _ _) (ownFrom_below (Nat.le_refl _) (Nat.le_refl _)))
    (fun c => hit1_own l loc w c W0.heap.size (by omega))
    ⟨by simp, Below.refl _ _⟩
    (fun x a' W => ∃ Bx, W0.heap.size ≤ Bx ∧ W.heap[Bx]? = some (.cells #[(D x.1).1, (D x.1).2.1, (D x.1).2.2] 62 (0, 0)) ∧ a' = { tmps := #[.slice A l.length c, .int .i64 loc, undef, .pointer (some ⟨w.heap.size, 0, none⟩), .pointer (some ⟨w.heap.size + 1, 0, none⟩), .pointer (some ⟨w.heap.size + 2, 0, none⟩), .pointer (some ⟨w.heap.size + 3, 0, none⟩), undef, .pointer (some ⟨Bx, 0, none⟩), undef, undef, undef, undef, undef, undef, .slice A l.length c, .func (.func 62) #[] #[.pointer (some ⟨w.heap.size + 4, 0, none⟩)], .int .i64 (x.1 : Int), .agg #[(D x.1).1, (D x.1).2.1, (D x.1).2.2], undef, undef, undef, undef, undef, undef, undef, undef, undef, undef, undef, undef, undef, undef, undef, undef, undef, undef, undef, undef, undef, undef, undef, undef, undef, undef, undef, undef, undef, undef, undef, undef, undef, undef], defers := [] })
    (fun x a' _ X Y row hs hg hr => by obtain ⟨Bx, e1, e2, e3⟩ := hs; exact ⟨Bx, e1, blk_own e2 hg hr, e3⟩)
    ?assign ?body ?done ?stop
  case assign =>
    rintro lp pre x W K ⟨hp, hB1⟩ hK
    have hsW := hB1.size
    have HP := Aside0.mk hp
    obtain ⟨ad, A0, c0, A1, c1, -, -, d0, d1, ⟨A2, c2, d2⟩, -⟩ := HD.out.at_ x.1 x.2
    generalize (l.getD x.1 z62).f0.length = n0 at d0
    generalize (l.getD x.1 z62).f1.length = n1 at d1
    generalize (l.getD x.1 z62).f2.length = n2 at d2
    have HE := Aside0.mk (And.intro d0 (And.intro d1 d2))
    have HK := Aside0.mk hK
    unfold encL
    rw [d0, d1, d2]
    clear hp hK d0 d1 d2
    gi_wp2
    refine HK.out _ _ ((KeepsOthers.alloc _ _).from _) ((Below.refl _ W).alloc hsW _) ⟨HP.out, hB1.alloc hsW _⟩ ⟨W.heap.size, hsW, ?_⟩
    rw [HE.out.1, HE.out.2.1, HE.out.2.2]
    exact ⟨World.alloc_heap_new W _, rfl⟩
  case body =>
    rintro lp pre x a' W hlp ⟨r, hr⟩ ⟨hp, hB1⟩ ⟨Bx, hBx, bX, rfl⟩ hlt
    obtain ⟨ad, A0, c0, A1, c1, -, -, d0, d1, ⟨A2, c2, d2⟩, -, -, -, -, k1⟩ := HD.out.at_ x.1 x.2
    generalize (l.getD x.1 z62).f0.length = n0 at d0
    generalize (l.getD x.1 z62).f2.length = n2 at d2
    rw [d0, d1, d2] at bX ⊢
    have hBw : Below w.heap.size w W := hB0.trans (hB1.mono hB0.size)
    have hx1 : W.cell? ⟨Bx, 1, none⟩ = some (.slice A1 (l.getD x.1 z62).f1.length c1) := by rw [blk_cell bX]; rfl
    have HP := Aside0.mk hp
    have K1 := Aside0.mk (Kd.C_below k1 hBw)
    have HX := Aside0.mk bX
    have hm1 : (l.getD x.1 z62).f1.length ≤ 9223372036854775807 := k1.2.1
    have BL := Aside0.mk (boxed_below bL hB1)
    have BV := Aside0.mk (boxed_below bV hB1)
    have BU := Aside0.mk (boxed_below bU hB1)
    have BH := Aside0.mk (boxed_below bH hB1)
    have BW := Aside0.mk hB1
    have BWw := Aside0.mk hBw
    have SZ := Aside0.mk hsz
    clear hp d0 d1 d2 k1 bX bL bV bU bH bS hB1 hBw hB0 hr hlp hBx hlt hsz hla
    generalize hzs : (l.getD x.1 z62).f1 = zs at hx1 K1 hm1 ⊢
    have HZ := Aside0.mk hzs
    clear hzs
    gi_wp2
    gi_loopw [22] (fun i wr => ∃ kk : Nat, kk ≤ zs.length ∧ i = .int .i64 kk ∧ Aside0 (Below W.heap.size W wr) ∧ Aside0 (∀ j, j < kk → (zs.getD j z33).f0 ≠ loc)) (fun i _ => zs.length - (intOf i).toNat)
    case atStart => exact ⟨0, Nat.zero_le _, rfl, ⟨Below.refl _ _⟩, ⟨fun j hj => absurd hj (Nat.not_lt_zero _)⟩⟩
    case round =>
      obtain ⟨kk, hkk, rfl, BR, AF⟩ := hrel
      by_cases hlt : kk < zs.length
      · have hltz : (kk : Int) < (zs.length : Int) := by omega
        obtain ⟨ad, rfl, hc0, hc1⟩ := at_T33 (Kd.C_below K1.out BR.out) (kk : Int) (by omega) hltz
        rw [show rd_T33 zs (kk : Int) = zs.getD kk z33 from rfl, Int.toNat_natCast] at hc0 hc1
        generalize hy : zs.getD kk z33 = y at hc0 hc1
        have HY := Aside0.mk hy
        clear hy
        have hl := (boxed_below BL.out BR.out).cell
        have h5 : w.heap.size < wr.heap.size := by have := BW.out.size; have := BR.out.size; have := SZ.out; omega
        have h51 : w.heap.size + 1 < wr.heap.size := by have := BW.out.size; have := BR.out.size; have := SZ.out; omega
        have h52 : w.heap.size + 2 < wr.heap.size := by have := BW.out.size; have := BR.out.size; have := SZ.out; omega
        have h53 : w.heap.size + 3 < wr.heap.size := by have := BW.out.size; have := BR.out.size; have := SZ.out; omega
        by_cases hq : y.f0 = loc
        · have hv := (boxed_below BV.out BR.out).cell
          have hvf := (boxed_below BV.out BR.out).frozen
          have hu := (boxed_below BU.out BR.out).cell
          have huf := (boxed_below BU.out BR.out).frozen
          have hh := (boxed_below BH.out BR.out).cell
          have hhf := (boxed_below BH.out BR.out).frozen
          have hqb : (y.f0 == loc) = true := by simpa using hq
          have HQ := Aside0.mk hq
          clear hq
          gi_wp2
          have hle : w.heap.size ≤ wr.heap.size := by omega
          refine ⟨((((keepsFrom_below BR.out).trans ((KeepsOthers.setCell _ _ _).from _)).trans ((KeepsOthers.setCell _ _ _).from _)).trans ((KeepsOthers.setCell _ _ _).from _)).trans ((KeepsOthers.alloc _ _).from _), ⟨⟨⟨rfl, pre, x, rfl, HP.out, y, ?_, ((((boxed_below BV.out BR.out).set _).other (by omega) _).other (by omega) _).alloc _⟩, ((((boxed_below BU.out BR.out).other (by omega) _).set _).other (by omega) _).alloc _⟩, ((((boxed_below BH.out BR.out).other (by omega) _).other (by omega) _).set _).alloc _⟩, ?_⟩
          · rw [HZ.out, ← HY.out]
            exact find_hit (fun y : S33 => y.f0) zs z33 loc kk hlt AF.out (by rw [HY.out]; exact HQ.out)
          · exact ((((BWw.out.trans (BR.out.mono BWw.out.size)).setCell (p := ⟨w.heap.size + 1, 0, none⟩) (by simp) _).setCell (p := ⟨w.heap.size + 2, 0, none⟩) (by simp) _).setCell (p := ⟨w.heap.size + 3, 0, none⟩) (by simp) _).alloc (by simp; omega) _
        · have hqb : (y.f0 == loc) = false := by simpa using hq
          have HQ := Aside0.mk hq
          clear hq
          gi_wp2
          go_roundw
          case rel =>
            refine ⟨kk + 1, by omega, by go_num, ⟨BR.out.alloc BR.out.size _⟩, ⟨fun j hj => ?_⟩⟩
            by_cases e : j = kk
            · subst e; rw [HY.out]; exact HQ.out
            · exact AF.out j (by omega)
          case measure => simp [intOf]; omega
      · have hltz : ¬ (kk : Int) < (zs.length : Int) := by omega
        have hk2 : kk = zs.length := by omega
        subst hk2
        gi_wp2
        refine ⟨keepsFrom_below BR.out, BR.out.mono BW.out.size, fun z hz => ?_, BW.out.trans (BR.out.mono BW.out.size)⟩
        rcases List.mem_append.1 hz with hz | hz
        · exact HP.out z hz
        · obtain rfl : z = x := by simpa using hz
          unfold missW
          rw [HZ.out]
          exact find_miss (fun y : S33 => y.f0) zs z33 loc AF.out
  case stop =>
    rintro D1 c pre V hD hpre hx hK
    obtain ⟨⟨⟨⟨rfl, p, x, rfl, hp, y, hy, b1⟩, b2⟩, b3⟩, hb⟩ := hx
    obtain ⟨k, hk, hpk⟩ := hpre
    rw [dn_succ hk] at hpk
    obtain ⟨rfl, hxk⟩ := List.append_inj' hpk rfl
    obtain rfl : x = ⟨k, hk⟩ := by simpa using hxk
    have hfl : findL l loc = (y.f1, 0, 1) := by
      unfold findL
      rw [findSome_rev (fun x : S62 => x.f1.find? (fun y : S33 => y.f0 == loc)) l z62 k hk y hy (fun j hj hjl => hp ⟨j, hjl⟩ (mem_dn.2 hj))]
    have HFL := Aside0.mk hfl
    clear hp hpk hxk hy hfl
    gi_wp2
    refine ⟨by simp, .inl ⟨_, _, rfl, run_takeDeferred hK, ?_⟩⟩
    have hc1 := cell_kept b1.cell (grownBy_putObj' _ D1 (.deferred none)) (fun r e => by cases e; exact ⟨_, hK, rfl⟩)
    have hc2 := cell_kept b2.cell (grownBy_putObj' _ D1 (.deferred none)) (fun r e => by cases e; exact ⟨_, hK, rfl⟩)
    have hc3 := cell_kept b3.cell (grownBy_putObj' _ D1 (.deferred none)) (fun r e => by cases e; exact ⟨_, hK, rfl⟩)
    refine ⟨.tuple #[.int .i64 y.f1, .int .i64 0, .int .i64 1], ?_, by rw [HFL.out], hb.trans (belowK_b (w := w) (Nat.le_refl _) V D1 _ _ (by omega) hK rfl rfl)⟩
    simp [results, Try.f17, go_sem, hc1, hc2, hc3]
  case done =>
    rintro D1 zs V0 hD rfl ⟨hp, hB1⟩ hK
    have HP := Aside0.mk hp
    clear hp
    gi_wp2_with (gi_at_call 46; refine (back_in F (f - 1) h46 hro _ _ _ _).mono ?_; rintro e w' ⟨rfl, rfl⟩)
    obtain ⟨V1, hV1⟩ : ∃ V1, V0.alloc (.cells #[.slice A l.length c] 22) = V1 := ⟨_, rfl⟩
    have hB2 : Below W0.heap.size W0 V1 := by rw [← hV1]; exact hB1.alloc hB1.size _
    have hsz1 : V1.heap.size = V0.heap.size + 1 := by rw [← hV1]; simp
    have hD1 : D1 < V1.heap.size := by have := (Array.getElem?_eq_some_iff.1 hK).1; omega
    have hK1 : V1.heap[D1]? = some (.deferred (some [])) := by rw [← hV1]; exact (Below.heap_alloc V0 _ D1 (Array.getElem?_eq_some_iff.1 hK).1).trans hK
    have bS2 : Boxed V1 V0.heap.size 22 (.slice A l.length c) := by rw [← hV1]; exact Boxed.new V0 22 _
    rw [hV1]
    clear hV1 bS hK hB1
    have hla2 : LAt V1.heap.size V1 A l.length D := (hla.below hB2).up hB2.size
    have hBv : Below w.heap.size w V1 := hB0.trans (hB2.mono hB0.size)
    replace bL := boxed_below bL hB2
    replace bV := boxed_below bV hB2
    replace bU := boxed_below bU hB2
    replace bH := boxed_below bH hB2
    have hW0 := hB2.size
    clear hla hB2
    refine wpIn_rangeFunc_ownH hro h1 (gf := 62) (lb := #[.pointer (some ⟨V0.heap.size, 0, none⟩)]) rfl h62 (enters_of Try.func62 (by kernel_rfl) rfl)
      (back_stops F (f - 1) h62 hro (by omega) V0.heap.size l.length c A D hmax V1 (by omega) bS2.cell hla2) belowK_t (belowK_b (Nat.le_refl _)) (Below.refl _ _) (fun _ => rfl)
      (fun pre W => (∀ x ∈ pre, missR l loc x.1) ∧ Below V1.heap.size V1 W)
      (fun c pre W => Hit2 l loc w D1 c pre W)
      (OwnFrom.and (ownFrom_pure _ _) (ownFrom_below (Nat.le_refl _) (Nat.le_refl _)))
      (fun c => hit2_own l loc w D1 c V1.heap.size (by omega) hD1)
      ⟨by simp, Below.refl _ _⟩
      (fun x a' W => ∃ Bx, V1.heap.size ≤ Bx ∧ W.heap[Bx]? = some (.cells #[(D x.1).1, (D x.1).2.1, (D x.1).2.2] 62 (0, 0)) ∧ a' = { tmps := #[.slice A l.length c, .int .i64 loc, undef, .pointer (some ⟨w.heap.size, 0, none⟩), .pointer (some ⟨w.heap.size + 1, 0, none⟩), .pointer (some ⟨w.heap.size + 2, 0, none⟩), .pointer (some ⟨w.heap.size + 3, 0, none⟩), undef, undef, undef, undef, undef, .pointer (some ⟨Bx, 0, none⟩), undef, undef, .slice A l.length c, .func (.func 62) #[] #[.pointer (some ⟨w.heap.size + 4, 0, none⟩)], undef, undef, undef, undef, undef, undef, undef, undef, undef, undef, undef, undef, undef, undef, undef, undef, .slice A l.length c, .func (.func 62) #[] #[.pointer (some ⟨V0.heap.size, 0, none⟩)], .int .i64 (x.1 : Int), .agg #[(D x.1).1, (D x.1).2.1, (D x.1).2.2], undef, undef, undef, undef, undef, undef, undef, undef, undef, undef, undef, undef, undef, undef, undef, undef], defers := [] })
      (fun x a' _ X Y row hs hg hr => by obtain ⟨Bx, e1, e2, e3⟩ := hs; exact ⟨Bx, e1, blk_own e2 hg hr, e3⟩)
      ?assign2 ?body2 ?done2 ?stop2
    case assign2 =>
      rintro lp pre x W K ⟨hp, hB1⟩ hK
      have hsW := hB1.size
      have HP := Aside0.mk hp
      obtain ⟨ad, A0, c0, A1, c1, -, -, d0, d1, ⟨A2, c2, d2⟩, -⟩ := HD.out.at_ x.1 x.2
      generalize (l.getD x.1 z62).f0.length = n0 at d0
      generalize (l.getD x.1 z62).f1.length = n1 at d1
      generalize (l.getD x.1 z62).f2.length = n2 at d2
      have HE := Aside0.mk (And.intro d0 (And.intro d1 d2))
      have HK := Aside0.mk hK
      unfold encL
      rw [d0, d1, d2]
      clear hp hK d0 d1 d2
      gi_wp2
      refine HK.out _ _ ((KeepsOthers.alloc _ _).from _) ((Below.refl _ W).alloc hsW _) ⟨HP.out, hB1.alloc hsW _⟩ ⟨W.heap.size, hsW, ?_⟩
      rw [HE.out.1, HE.out.2.1, HE.out.2.2]
      exact ⟨World.alloc_heap_new W _, rfl⟩
    case body2 =>
      rintro lp pre x a' W hlp ⟨r, hr⟩ ⟨hp, hB1⟩ ⟨Bx, hBx, bX, rfl⟩ hlt
      obtain ⟨ad, A0, c0, A1, c1, -, -, d0, d1, ⟨A2, c2, d2⟩, -, -, -, k0, -⟩ := HD.out.at_ x.1 x.2
      generalize (l.getD x.1 z62).f1.length = n1 at d1
      generalize (l.getD x.1 z62).f2.length = n2 at d2
      rw [d0, d1, d2] at bX ⊢
      have hBw : Below w.heap.size w W := hBv.trans (hB1.mono hBv.size)
      have hx1 : W.cell? ⟨Bx, 0, none⟩ = some (.slice A0 (l.getD x.1 z62).f0.length c0) := by rw [blk_cell bX]; rfl
      have HP := Aside0.mk hp
      have K1 := Aside0.mk (Kd.C_below k0 hBw)
      have HX := Aside0.mk bX
      have hm1 : (l.getD x.1 z62).f0.length ≤ 9223372036854775807 := k0.2.1
      have BL := Aside0.mk (boxed_below bL hB1)
      have BV := Aside0.mk (boxed_below bV hB1)
      have BU := Aside0.mk (boxed_below bU hB1)
      have BH := Aside0.mk (boxed_below bH hB1)
      have BD := Aside0.mk ((hB1.block D1 hD1).trans hK1)
      have BW := Aside0.mk hB1
      have BWw := Aside0.mk hBw
      have SZ := Aside0.mk (And.intro hsz (And.intro hsz1 (And.intro hW0 hD)))
      clear hp d0 d1 d2 k0 bX bL bV bU bH bS2 hB1 hBw hBv hB0 hr hlp hBx hlt hsz hla2 hsz1 hW0 hK1 hD1 hD
      generalize hzs : (l.getD x.1 z62).f0 = zs at hx1 K1 hm1 ⊢
      have HZ := Aside0.mk hzs
      clear hzs
      gi_wp2
      gi_loopw [40] (fun i wr => ∃ kk : Nat, kk ≤ zs.length ∧ i = .int .i64 kk ∧ Aside0 (Below W.heap.size W wr) ∧ Aside0 (∀ j, j < kk → (zs.getD j z30).f0 ≠ loc)) (fun i _ => zs.length - (intOf i).toNat)
      case atStart => exact ⟨0, Nat.zero_le _, rfl, ⟨Below.refl _ _⟩, ⟨fun j hj => absurd hj (Nat.not_lt_zero _)⟩⟩
      case round =>
        obtain ⟨kk, hkk, rfl, BR, AF⟩ := hrel
        by_cases hlt : kk < zs.length
        · have hltz : (kk : Int) < (zs.length : Int) := by omega
          obtain ⟨ad, rfl, hc0, hc1, hc2⟩ := at_T30 (Kd.C_below K1.out BR.out) (kk : Int) (by omega) hltz
          rw [show rd_T30 zs (kk : Int) = zs.getD kk z30 from rfl, Int.toNat_natCast] at hc0 hc1 hc2
          generalize hy : zs.getD kk z30 = y at hc0 hc1 hc2
          have HY := Aside0.mk hy
          clear hy
          have hl := (boxed_below BL.out BR.out).cell
          have h5 : w.heap.size < wr.heap.size := by have := BW.out.size; have := BR.out.size; have := SZ.out; omega
          have h51 : w.heap.size + 1 < wr.heap.size := by have := BW.out.size; have := BR.out.size; have := SZ.out; omega
          have h52 : w.heap.size + 2 < wr.heap.size := by have := BW.out.size; have := BR.out.size; have := SZ.out; omega
          have h53 : w.heap.size + 3 < wr.heap.size := by have := BW.out.size; have := BR.out.size; have := SZ.out; omega
          by_cases hq : y.f0 = loc
          · have hv := (boxed_below BV.out BR.out).cell
            have hvf := (boxed_below BV.out BR.out).frozen
            have hu := (boxed_below BU.out BR.out).cell
            have huf := (boxed_below BU.out BR.out).frozen
            have hh := (boxed_below BH.out BR.out).cell
            have hhf := (boxed_below BH.out BR.out).frozen
            have hqb : (y.f0 == loc) = true := by simpa using hq
            have HQ := Aside0.mk hq
            clear hq
            gi_wp2
            gi_region
            all_goals gi_wp2
            all_goals have hle : w.heap.size ≤ wr.heap.size := by omega
            all_goals refine ⟨(((((keepsFrom_below BR.out).trans ((KeepsOthers.setCell _ _ _).from _)).trans ((KeepsOthers.setCell _ _ _).from _)).trans ((KeepsOthers.setCell _ _ _).from _)).trans ((KeepsOthers.alloc _ _).from _)).trans ((KeepsOthers.drew _).from _), ⟨⟨rfl, pre, x, rfl, HP.out, y, ?_, ((((boxed_below BV.out BR.out).set _).other (by omega) _).other (by omega) _).alloc _, ((((boxed_below BU.out BR.out).other (by omega) _).set _).other (by omega) _).alloc _⟩, ((((boxed_below BH.out BR.out).other (by omega) _).other (by omega) _).set _).alloc _⟩, ?_, ?_⟩
            all_goals first
              | (rw [HZ.out, ← HY.out]; exact find_hit (fun y : S30 => y.f0) zs z30 loc kk hlt AF.out (by rw [HY.out]; exact HQ.out))
              | exact (((((BWw.out.trans (BR.out.mono BWw.out.size)).setCell (p := ⟨w.heap.size + 1, 0, none⟩) (by simp) _).setCell (p := ⟨w.heap.size + 2, 0, none⟩) (by simp) _).setCell (p := ⟨w.heap.size + 3, 0, none⟩) (by simp) _).alloc (by simp; omega) _).drew
              | (have hdl := (Array.getElem?_eq_some_iff.1 BD.out).1
                 have hdr : wr.heap[D1]? = some (.deferred (some [])) := (BR.out.block D1 hdl).trans BD.out
                 have hne := SZ.out
                 exact hit_keep (by omega) (by omega) (by omega) hdr)
          · have hqb : (y.f0 == loc) = false := by simpa using hq
            have HQ := Aside0.mk hq
            clear hq
            gi_wp2
            go_roundw
            case rel =>
              refine ⟨kk + 1, by omega, by go_num, ⟨BR.out.alloc BR.out.size _⟩, ⟨fun j hj => ?_⟩⟩
              by_cases e : j = kk
              · subst e; rw [HY.out]; exact HQ.out
              · exact AF.out j (by omega)
            case measure => simp [intOf]; omega
        · have hltz : ¬ (kk : Int) < (zs.length : Int) := by omega
          have hk2 : kk = zs.length := by omega
          subst hk2
          gi_wp2
          refine ⟨keepsFrom_below BR.out, BR.out.mono BW.out.size, fun z hz => ?_, BW.out.trans (BR.out.mono BW.out.size)⟩
          rcases List.mem_append.1 hz with hz | hz
          · exact HP.out z hz
          · obtain rfl : z = x := by simpa using hz
            unfold missR
            rw [HZ.out]
            exact find_miss (fun y : S30 => y.f0) zs z30 loc AF.out
    case done2 =>
      rintro D2 zs V2 hD2 rfl ⟨hp2, hB3⟩ hK2
      have hfl : findL l loc = (0, 0, 0) := by
        exact findL_none (findSome_rev_none (fun x : S62 => x.f1.find? (fun y : S33 => y.f0 == loc)) l z62 (fun j hjl => HP.out ⟨j, hjl⟩ (mem_dn.2 (Nat.zero_le _))))
          (findSome_rev_none (fun x : S62 => x.f0.find? (fun y : S30 => y.f0 == loc)) l z62 (fun j hjl => hp2 ⟨j, hjl⟩ (mem_dn.2 (Nat.zero_le _))))
      have HFL := Aside0.mk hfl
      have hd1 : V2.heap[D1]? = some (.deferred (some [])) := (hB3.block D1 hD1).trans hK1
      have c1 := boxed_below bV hB3
      have c2 := boxed_below bU hB3
      have c3 := boxed_below bH hB3
      have e1 := c1.cell
      have e2 := c2.cell
      have e3 := c3.cell
      have f1 := c1.frozen
      have f2 := c2.frozen
      have f3 := c3.frozen
      have hBB := Aside0.mk (hBv.trans (hB3.mono hBv.size))
      clear hp2 hfl hB3 HP HD hla2
      gi_wp2
      have kd2 := ((((KeepsOthers.setCell V2 ⟨w.heap.size + 1, 0, none⟩ (.int .i64 0)).trans (KeepsOthers.setCell _ ⟨w.heap.size + 2, 0, none⟩ (.int .i64 0))).trans (KeepsOthers.setCell _ ⟨w.heap.size + 3, 0, none⟩ (.int .i64 0)))).same D2 _ hK2 rfl
      have kd1 := ((((KeepsOthers.setCell V2 ⟨w.heap.size + 1, 0, none⟩ (.int .i64 0)).trans (KeepsOthers.setCell _ ⟨w.heap.size + 2, 0, none⟩ (.int .i64 0))).trans (KeepsOthers.setCell _ ⟨w.heap.size + 3, 0, none⟩ (.int .i64 0)))).same D1 _ hd1 rfl
      have g1 := ((c1.set (.int .i64 0)).other (B' := w.heap.size + 2) (by omega) (.int .i64 0)).other (B' := w.heap.size + 3) (by omega) (.int .i64 0)
      have g2 := ((c2.other (B' := w.heap.size + 1) (by omega) (.int .i64 0)).set (.int .i64 0)).other (B' := w.heap.size + 3) (by omega) (.int .i64 0)
      have g3 := ((c3.other (B' := w.heap.size + 1) (by omega) (.int .i64 0)).other (B' := w.heap.size + 2) (by omega) (.int .i64 0)).set (.int .i64 0)
      have hb := ((hBB.out.setCell (p := ⟨w.heap.size + 1, 0, none⟩) (by simp) (.int .i64 0)).setCell (p := ⟨w.heap.size + 2, 0, none⟩) (by simp) (.int .i64 0)).setCell (p := ⟨w.heap.size + 3, 0, none⟩) (by simp) (.int .i64 0)
      revert kd1 kd2 g1 g2 g3 hb
      generalize ((V2.setCell ⟨w.heap.size + 1, 0, none⟩ (.int .i64 0)).setCell ⟨w.heap.size + 2, 0, none⟩ (.int .i64 0)).setCell ⟨w.heap.size + 3, 0, none⟩ (.int .i64 0) = V
      intro kd2 kd1 g1 g2 g3 hb
      exact find_end (by omega) (by omega) (by omega) kd2 kd1 g1 g2 g3 hb (by rw [HFL.out])
    case stop2 =>
      rintro D2 c pre V hD2 hpre hx hK2
      obtain ⟨⟨⟨rfl, p, x, rfl, hp2, y, hy, b1, b2⟩, b3⟩, hb, hd1⟩ := hx
      obtain ⟨k, hk, hpk⟩ := hpre
      rw [dn_succ hk] at hpk
      obtain ⟨rfl, hxk⟩ := List.append_inj' hpk rfl
      obtain rfl : x = ⟨k, hk⟩ := by simpa using hxk
      have hfl : findL l loc = (y.f2, y.f1, 2) := by
        exact findL_read (findSome_rev_none (fun x : S62 => x.f1.find? (fun y : S33 => y.f0 == loc)) l z62 (fun j hjl => HP.out ⟨j, hjl⟩ (mem_dn.2 (Nat.zero_le _))))
          (findSome_rev (fun x : S62 => x.f0.find? (fun y : S30 => y.f0 == loc)) l z62 k hk y hy (fun j hj hjl => hp2 ⟨j, hjl⟩ (mem_dn.2 hj)))
      have HFL := Aside0.mk hfl
      clear hp2 hpk hxk hy hfl HP HD hla2
      gi_wp2
      exact find_end (by omega) (by omega) (by omega) hK2 hd1 b1 b2 b3 hb (by rw [HFL.out])

/-! ### nest.Find: function 17 -/
def nFind.f (l : List S62) (loc : Int) : Option (Int × Int × Int) := some (findL l loc)
theorem nFind.calls (A0 : Option Addr) (c0 : Nat) (l0 : List S62) (a1 : Int) (r1 r2 r3 : Int) (w : World) (hr0 : Kd.C k62 w A0 l0.length l0) (hc0 : l0.length ≤ c0) (h : nFind.f l0 a1 = some (r1, r2, r3)) :
    Calls Try.prog 17 #[.slice A0 l0.length c0, .int .i64 a1] w fun e w' => e = .returned (.tuple #[.int .i64 r1, .int .i64 r2, .int .i64 r3]) ∧ Below w.heap.size w w' := by
  unfold nFind.f at h
  have he := Option.some.inj h
  refine (callsIn_wide (n := 6)).1 ((find_in Fence.wide 6 trivial trivial trivial rfl (Nat.le_refl _) A0 c0 l0 a1 w hr0).mono ?_)
  rintro e w' ⟨rfl, hb⟩
  rw [he]
  exact ⟨rfl, hb⟩
end Go.Proofs.Ytfojpobblebigaa.P
namespace Go.Proofs.Ytfojpobblebigaa.P
open Go.RowKit Go.Proofs.YtfojpobblebigaaW.PrintWords Go.Proofs.YtfojpobblebigaaW.PrintLast Go.Proofs.YtfojpobblebigaaW.PrintMore
attribute [local go_sem] max2_int min2_int max_two min_two max_three min_three max_four min_four   -- for this text's walks alone
set_option linter.unusedVariables false
set_option linter.unusedSimpArgs false

/-! ### hallmootlaw13_sanity: function 10 -/
def hallmootlaw13_sanity.f  : Option (Bool) := (nBegin.f ([] : List (S62))).bind fun t101 => ((nPut.f t101 1 5).bind fun t104 => ((nBegin.f t104).bind fun t107 => ((nPut.f t107 1 7).bind fun t110 => ((nFind.f t110 1).bind fun bt113 => ((nRead.f t110 2 4 9).bind fun t116 => ((nDrop.f t116).bind fun bt119 => ((nFind.f bt119.1 1).bind fun bt125 => ((nFind.f bt119.1 2).bind fun bt128 => ((nEnd.f t110).bind fun t131 => ((nFind.f t131 1).bind fun bt134 => ((nFind.f t131 2).bind fun bt137 => (if bt113.1 = 7 then (if bt113.2.2 = 1 then (if bt125.1 = 5 then (if bt125.2.2 = 1 then (if bt128.1 = 9 then (if bt128.2.1 = 4 then (if bt128.2.2 = 2 then (if bt134.1 = 7 then (if bt137.2.2 = 0 then (if (t110.length : Int) = 2 then (if (bt119.1.length : Int) = 1 then (some ((t131.length : Int) == 1)) else (none)) else (none)) else (none)) else (none)) else (none)) else (none)) else (none)) else (none)) else (none)) else (none)) else (none)))))))))))))
set_option maxHeartbeats 8000000 in
set_option maxRecDepth 100000 in
theorem hallmootlaw13_sanity.calls  (r : Bool) (w : World) (h : hallmootlaw13_sanity.f  = some r) : Calls Try.prog 10 #[] w fun e w' => e = .returned (.bool r) ∧ Below w.heap.size w w' := by
 have hu33 := Try.underlying33
 have hu30 := Try.underlying30
 have HB := aS (Below.refl w.heap.size w)
 have H : ((nBegin.f ([] : List (S62))).bind fun t101 => ((nPut.f t101 1 5).bind fun t104 => ((nBegin.f t104).bind fun t107 => ((nPut.f t107 1 7).bind fun t110 => ((nFind.f t110 1).bind fun bt113 => ((nRead.f t110 2 4 9).bind fun t116 => ((nDrop.f t116).bind fun bt119 => ((nFind.f bt119.1 1).bind fun bt125 => ((nFind.f bt119.1 2).bind fun bt128 => ((nEnd.f t110).bind fun t131 => ((nFind.f t131 1).bind fun bt134 => ((nFind.f t131 2).bind fun bt137 => (if bt113.1 = 7 then (if bt113.2.2 = 1 then (if bt125.1 = 5 then (if bt125.2.2 = 1 then (if bt128.1 = 9 then (if bt128.2.1 = 4 then (if bt128.2.2 = 2 then (if bt134.1 = 7 then (if bt137.2.2 = 0 then (if (t110.length : Int) = 2 then (if (bt119.1.length : Int) = 1 then (some ((t131.length : Int) == 1)) else (none)) else (none)) else (none)) else (none)) else (none)) else (none)) else (none)) else (none)) else (none)) else (none)) else (none)))))))))))))) = some r := h
 clear h
 replace H := Option.bind_eq_some_iff.mp H
 obtain ⟨t101, A10, H⟩ := H
 replace H : ((nPut.f t101 1 5).bind fun t104 => ((nBegin.f t104).bind fun t107 => ((nPut.f t107 1 7).bind fun t110 => ((nFind.f t110 1).bind fun bt113 => ((nRead.f t110 2 4 9).bind fun t116 => ((nDrop.f t116).bind fun bt119 => ((nFind.f bt119.1 1).bind fun bt125 => ((nFind.f bt119.1 2).bind fun bt128 => ((nEnd.f t110).bind fun t131 => ((nFind.f t131 1).bind fun bt134 => ((nFind.f t131 2).bind fun bt137 => (if bt113.1 = 7 then (if bt113.2.2 = 1 then (if bt125.1 = 5 then (if bt125.2.2 = 1 then (if bt128.1 = 9 then (if bt128.2.1 = 4 then (if bt128.2.2 = 2 then (if bt134.1 = 7 then (if bt137.2.2 = 0 then (if (t110.length : Int) = 2 then (if (bt119.1.length : Int) = 1 then (some ((t131.length : Int) == 1)) else (none)) else (none)) else (none)) else (none)) else (none)) else (none)) else (none)) else (none)) else (none)) else (none)) else (none))))))))))))) = some r := H
 have A1 := aS A10
 clear A10
 replace H := Option.bind_eq_some_iff.mp H
 obtain ⟨t104, A20, H⟩ := H
 replace H : ((nBegin.f t104).bind fun t107 => ((nPut.f t107 1 7).bind fun t110 => ((nFind.f t110 1).bind fun bt113 => ((nRead.f t110 2 4 9).bind fun t116 => ((nDrop.f t116).bind fun bt119 => ((nFind.f bt119.1 1).bind fun bt125 => ((nFind.f bt119.1 2).bind fun bt128 => ((nEnd.f t110).bind fun t131 => ((nFind.f t131 1).bind fun bt134 => ((nFind.f t131 2).bind fun bt137 => (if bt113.1 = 7 then (if bt113.2.2 = 1 then (if bt125.1 = 5 then (if bt125.2.2 = 1 then (if bt128.1 = 9 then (if bt128.2.1 = 4 then (if bt128.2.2 = 2 then (if bt134.1 = 7 then (if bt137.2.2 = 0 then (if (t110.length : Int) = 2 then (if (bt119.1.length : Int) = 1 then (some ((t131.length : Int) == 1)) else (none)) else (none)) else (none)) else (none)) else (none)) else (none)) else (none)) else (none)) else (none)) else (none)) else (none)))))))))))) = some r := H
 have A2 := aS A20
 clear A20
 replace H := Option.bind_eq_some_iff.mp H
 obtain ⟨t107, A30, H⟩ := H
 replace H : ((nPut.f t107 1 7).bind fun t110 => ((nFind.f t110 1).bind fun bt113 => ((nRead.f t110 2 4 9).bind fun t116 => ((nDrop.f t116).bind fun bt119 => ((nFind.f bt119.1 1).bind fun bt125 => ((nFind.f bt119.1 2).bind fun bt128 => ((nEnd.f t110).bind fun t131 => ((nFind.f t131 1).bind fun bt134 => ((nFind.f t131 2).bind fun bt137 => (if bt113.1 = 7 then (if bt113.2.2 = 1 then (if bt125.1 = 5 then (if bt125.2.2 = 1 then (if bt128.1 = 9 then (if bt128.2.1 = 4 then (if bt128.2.2 = 2 then (if bt134.1 = 7 then (if bt137.2.2 = 0 then (if (t110.length : Int) = 2 then (if (bt119.1.length : Int) = 1 then (some ((t131.length : Int) == 1)) else (none)) else (none)) else (none)) else (none)) else (none)) else (none)) else (none)) else (none)) else (none)) else (none)) else (none))))))))))) = some r := H
 have A3 := aS A30
 clear A30
 replace H := Option.bind_eq_some_iff.mp H
 obtain ⟨t110, A40, H⟩ := H
 replace H : ((nFind.f t110 1).bind fun bt113 => ((nRead.f t110 2 4 9).bind fun t116 => ((nDrop.f t116).bind fun bt119 => ((nFind.f bt119.1 1).bind fun bt125 => ((nFind.f bt119.1 2).bind fun bt128 => ((nEnd.f t110).bind fun t131 => ((nFind.f t131 1).bind fun bt134 => ((nFind.f t131 2).bind fun bt137 => (if bt113.1 = 7 then (if bt113.2.2 = 1 then (if bt125.1 = 5 then (if bt125.2.2 = 1 then (if bt128.1 = 9 then (if bt128.2.1 = 4 then (if bt128.2.2 = 2 then (if bt134.1 = 7 then (if bt137.2.2 = 0 then (if (t110.length : Int) = 2 then (if (bt119.1.length : Int) = 1 then (some ((t131.length : Int) == 1)) else (none)) else (none)) else (none)) else (none)) else (none)) else (none)) else (none)) else (none)) else (none)) else (none)) else (none)))))))))) = some r := H
 have A4 := aS A40
 clear A40
 replace H := Option.bind_eq_some_iff.mp H
 obtain ⟨⟨t113, t114, t115⟩, A50, H⟩ := H
 replace H : ((nRead.f t110 2 4 9).bind fun t116 => ((nDrop.f t116).bind fun bt119 => ((nFind.f bt119.1 1).bind fun bt125 => ((nFind.f bt119.1 2).bind fun bt128 => ((nEnd.f t110).bind fun t131 => ((nFind.f t131 1).bind fun bt134 => ((nFind.f t131 2).bind fun bt137 => (if t113 = 7 then (if t115 = 1 then (if bt125.1 = 5 then (if bt125.2.2 = 1 then (if bt128.1 = 9 then (if bt128.2.1 = 4 then (if bt128.2.2 = 2 then (if bt134.1 = 7 then (if bt137.2.2 = 0 then (if (t110.length : Int) = 2 then (if (bt119.1.length : Int) = 1 then (some ((t131.length : Int) == 1)) else (none)) else (none)) else (none)) else (none)) else (none)) else (none)) else (none)) else (none)) else (none)) else (none)) else (none))))))))) = some r := H
 have A5 := aS A50
 clear A50
 replace H := Option.bind_eq_some_iff.mp H
 obtain ⟨t116, A60, H⟩ := H
 replace H : ((nDrop.f t116).bind fun bt119 => ((nFind.f bt119.1 1).bind fun bt125 => ((nFind.f bt119.1 2).bind fun bt128 => ((nEnd.f t110).bind fun t131 => ((nFind.f t131 1).bind fun bt134 => ((nFind.f t131 2).bind fun bt137 => (if t113 = 7 then (if t115 = 1 then (if bt125.1 = 5 then (if bt125.2.2 = 1 then (if bt128.1 = 9 then (if bt128.2.1 = 4 then (if bt128.2.2 = 2 then (if bt134.1 = 7 then (if bt137.2.2 = 0 then (if (t110.length : Int) = 2 then (if (bt119.1.length : Int) = 1 then (some ((t131.length : Int) == 1)) else (none)) else (none)) else (none)) else (none)) else (none)) else (none)) else (none)) else (none)) else (none)) else (none)) else (none)))))))) = some r := H
 have A6 := aS A60
 clear A60
 replace H := Option.bind_eq_some_iff.mp H
 obtain ⟨⟨t119, t122⟩, A70, H⟩ := H
 replace H : ((nFind.f t119 1).bind fun bt125 => ((nFind.f t119 2).bind fun bt128 => ((nEnd.f t110).bind fun t131 => ((nFind.f t131 1).bind fun bt134 => ((nFind.f t131 2).bind fun bt137 => (if t113 = 7 then (if t115 = 1 then (if bt125.1 = 5 then (if bt125.2.2 = 1 then (if bt128.1 = 9 then (if bt128.2.1 = 4 then (if bt128.2.2 = 2 then (if bt134.1 = 7 then (if bt137.2.2 = 0 then (if (t110.length : Int) = 2 then (if (t119.length : Int) = 1 then (some ((t131.length : Int) == 1)) else (none)) else (none)) else (none)) else (none)) else (none)) else (none)) else (none)) else (none)) else (none)) else (none)) else (none))))))) = some r := H
 have A7 := aS A70
 clear A70
 replace H := Option.bind_eq_some_iff.mp H
 obtain ⟨⟨t125, t126, t127⟩, A80, H⟩ := H
 replace H : ((nFind.f t119 2).bind fun bt128 => ((nEnd.f t110).bind fun t131 => ((nFind.f t131 1).bind fun bt134 => ((nFind.f t131 2).bind fun bt137 => (if t113 = 7 then (if t115 = 1 then (if t125 = 5 then (if t127 = 1 then (if bt128.1 = 9 then (if bt128.2.1 = 4 then (if bt128.2.2 = 2 then (if bt134.1 = 7 then (if bt137.2.2 = 0 then (if (t110.length : Int) = 2 then (if (t119.length : Int) = 1 then (some ((t131.length : Int) == 1)) else (none)) else (none)) else (none)) else (none)) else (none)) else (none)) else (none)) else (none)) else (none)) else (none)) else (none)))))) = some r := H
 have A8 := aS A80
 clear A80
 replace H := Option.bind_eq_some_iff.mp H
 obtain ⟨⟨t128, t129, t130⟩, A90, H⟩ := H
 replace H : ((nEnd.f t110).bind fun t131 => ((nFind.f t131 1).bind fun bt134 => ((nFind.f t131 2).bind fun bt137 => (if t113 = 7 then (if t115 = 1 then (if t125 = 5 then (if t127 = 1 then (if t128 = 9 then (if t129 = 4 then (if t130 = 2 then (if bt134.1 = 7 then (if bt137.2.2 = 0 then (if (t110.length : Int) = 2 then (if (t119.length : Int) = 1 then (some ((t131.length : Int) == 1)) else (none)) else (none)) else (none)) else (none)) else (none)) else (none)) else (none)) else (none)) else (none)) else (none)) else (none))))) = some r := H
 have A9 := aS A90
 clear A90
 replace H := Option.bind_eq_some_iff.mp H
 obtain ⟨t131, A100, H⟩ := H
 replace H : ((nFind.f t131 1).bind fun bt134 => ((nFind.f t131 2).bind fun bt137 => (if t113 = 7 then (if t115 = 1 then (if t125 = 5 then (if t127 = 1 then (if t128 = 9 then (if t129 = 4 then (if t130 = 2 then (if bt134.1 = 7 then (if bt137.2.2 = 0 then (if (t110.length : Int) = 2 then (if (t119.length : Int) = 1 then (some ((t131.length : Int) == 1)) else (none)) else (none)) else (none)) else (none)) else (none)) else (none)) else (none)) else (none)) else (none)) else (none)) else (none)))) = some r := H
 have A10 := aS A100
 clear A100
 replace H := Option.bind_eq_some_iff.mp H
 obtain ⟨⟨t134, t135, t136⟩, A110, H⟩ := H
 replace H : ((nFind.f t131 2).bind fun bt137 => (if t113 = 7 then (if t115 = 1 then (if t125 = 5 then (if t127 = 1 then (if t128 = 9 then (if t129 = 4 then (if t130 = 2 then (if t134 = 7 then (if bt137.2.2 = 0 then (if (t110.length : Int) = 2 then (if (t119.length : Int) = 1 then (some ((t131.length : Int) == 1)) else (none)) else (none)) else (none)) else (none)) else (none)) else (none)) else (none)) else (none)) else (none)) else (none)) else (none))) = some r := H
 have A11 := aS A110
 clear A110
 replace H := Option.bind_eq_some_iff.mp H
 obtain ⟨⟨t137, t138, t139⟩, A120, H⟩ := H
 replace H : (if t113 = 7 then (if t115 = 1 then (if t125 = 5 then (if t127 = 1 then (if t128 = 9 then (if t129 = 4 then (if t130 = 2 then (if t134 = 7 then (if t139 = 0 then (if (t110.length : Int) = 2 then (if (t119.length : Int) = 1 then (some ((t131.length : Int) == 1)) else (none)) else (none)) else (none)) else (none)) else (none)) else (none)) else (none)) else (none)) else (none)) else (none)) else (none)) = some r := H
 have A12 := aS A120
 clear A120
 by_cases c13 : t113 = 7
 {
 rw [if_pos c13] at H
 have c13b0 : (t113 == 7) = true := beq_iff_eq.mpr c13
 have c13b1 : (t113 != 7) = false := bne_eq_false_iff_eq.mpr c13
 clear c13
 by_cases c14 : t115 = 1
 {
 rw [if_pos c14] at H
 have c14b0 : (t115 == 1) = true := beq_iff_eq.mpr c14
 have c14b1 : (t115 != 1) = false := bne_eq_false_iff_eq.mpr c14
 clear c14
 by_cases c15 : t125 = 5
 {
 rw [if_pos c15] at H
 have c15b0 : (t125 == 5) = true := beq_iff_eq.mpr c15
 have c15b1 : (t125 != 5) = false := bne_eq_false_iff_eq.mpr c15
 clear c15
 by_cases c16 : t127 = 1
 {
 rw [if_pos c16] at H
 have c16b0 : (t127 == 1) = true := beq_iff_eq.mpr c16
 have c16b1 : (t127 != 1) = false := bne_eq_false_iff_eq.mpr c16
 clear c16
 by_cases c17 : t128 = 9
 {
 rw [if_pos c17] at H
 have c17b0 : (t128 == 9) = true := beq_iff_eq.mpr c17
 have c17b1 : (t128 != 9) = false := bne_eq_false_iff_eq.mpr c17
 clear c17
 by_cases c18 : t129 = 4
 {
 rw [if_pos c18] at H
 have c18b0 : (t129 == 4) = true := beq_iff_eq.mpr c18
 have c18b1 : (t129 != 4) = false := bne_eq_false_iff_eq.mpr c18
 clear c18
 by_cases c19 : t130 = 2
 {
 rw [if_pos c19] at H
 have c19b0 : (t130 == 2) = true := beq_iff_eq.mpr c19
 have c19b1 : (t130 != 2) = false := bne_eq_false_iff_eq.mpr c19
 clear c19
 by_cases c20 : t134 = 7
 {
 rw [if_pos c20] at H
 have c20b0 : (t134 == 7) = true := beq_iff_eq.mpr c20
 have c20b1 : (t134 != 7) = false := bne_eq_false_iff_eq.mpr c20
 clear c20
 by_cases c21 : t139 = 0
 {
 rw [if_pos c21] at H
 have c21b0 : (t139 == 0) = true := beq_iff_eq.mpr c21
 have c21b1 : (t139 != 0) = false := bne_eq_false_iff_eq.mpr c21
 clear c21
 by_cases c22 : (t110.length : Int) = 2
 {
 rw [if_pos c22] at H
 have c22b0 : ((t110.length : Int) == 2) = true := beq_iff_eq.mpr c22
 have c22b1 : ((t110.length : Int) != 2) = false := bne_eq_false_iff_eq.mpr c22
 clear c22
 by_cases c23 : (t119.length : Int) = 1
 {
 rw [if_pos c23] at H
 have c23b0 : ((t119.length : Int) == 1) = true := beq_iff_eq.mpr c23
 have c23b1 : ((t119.length : Int) != 1) = false := bne_eq_false_iff_eq.mpr c23
 clear c23
 obtain rfl := Option.some.inj H
 go_enter Try.func10, Try.ntmps10
 go_wp2_with (first | ((with_reducible refine gate_callee (f := 12) rfl ?_); refine goesL_ (some 20) rfl rfl Try.func12 (by kernel_rfl) rfl #[.slice none 0 0] rfl (by (try simp only [List.map_toArray, List.map_cons, List.map_nil]); first | done | rfl | (simp only [List.length_drop, List.length_take]; rfl)) ?_; (refine (nBegin.calls (fun k_ => False) _ _ ([] : List (S62)) t101 _ ?side1 A1.out).mono ?_); (case side1 => exact Kd.V_nil _ _ _ _ _); rintro e w24 ⟨v102, rfl, ho0, hb⟩; refine ⟨_, rfl, ?_⟩; have n0_ := aS (Kd.V_lower (Kd.V_mono (ok' := fun k_ => True) ho0 (fun k_ hk_ => trivial)) bz); have n1_ := aS (below_step bb hb); clear HB; have HO103 := n0_; have HB := n1_; clear n0_ n1_; (try clear hb); (try clear hb2); (try clear hk); (try clear hi); (try clear ho0); obtain ⟨Ao25, co25, eo25⟩ := Kd.V_slice HO103.out; subst eo25) | ((with_reducible refine gate_callee (f := 14) rfl ?_); refine goesL_ (some 22) rfl rfl Try.func14 (by kernel_rfl) rfl #[.slice Ao25 t101.length co25, .agg #[.int .i64 1, .int .i64 5]] rfl (by (try simp only [List.map_toArray, List.map_cons, List.map_nil]); first | done | rfl | (simp only [List.length_drop, List.length_take]; rfl)) ?_; (with_reducible refine (nPut.calls (fun k_ => True) _ _ t101 1 5 t104 _ ?side1 A2.out).mono ?_); (case side1 => exact HO103.out); rintro e w26 ⟨v105, rfl, ho0, hb⟩; refine ⟨_, rfl, ?_⟩; have n0_ := aS (Kd.V_below (vv HO103.out) hb); have n1_ := aS (Kd.V_lower (Kd.V_mono (ok' := fun k_ => True) ho0 (fun k_ hk_ => trivial)) bz); have n2_ := aS (below_step bb hb); clear HO103; clear HB; have HO103 := n0_; have HO106 := n1_; have HB := n2_; clear n0_ n1_ n2_; (try clear hb); (try clear hb2); (try clear hk); (try clear hi); (try clear ho0); obtain ⟨Ao27, co27, eo27⟩ := Kd.V_slice HO106.out; subst eo27) | ((with_reducible refine gate_callee (f := 12) rfl ?_); refine goesL_ (some 23) rfl rfl Try.func12 (by kernel_rfl) rfl #[.slice Ao27 t104.length co27] rfl (by (try simp only [List.map_toArray, List.map_cons, List.map_nil]); first | done | rfl | (simp only [List.length_drop, List.length_take]; rfl)) ?_; (with_reducible refine (nBegin.calls (fun k_ => True) _ _ t104 t107 _ ?side1 A3.out).mono ?_); (case side1 => exact HO106.out); rintro e w28 ⟨v108, rfl, ho0, hb⟩; refine ⟨_, rfl, ?_⟩; have n0_ := aS (Kd.V_below (vv HO103.out) hb); have n1_ := aS (Kd.V_below (vv HO106.out) hb); have n2_ := aS (Kd.V_lower (Kd.V_mono (ok' := fun k_ => True) ho0 (fun k_ hk_ => trivial)) bz); have n3_ := aS (below_step bb hb); clear HO103; clear HO106; clear HB; have HO103 := n0_; have HO106 := n1_; have HO109 := n2_; have HB := n3_; clear n0_ n1_ n2_ n3_; (try clear hb); (try clear hb2); (try clear hk); (try clear hi); (try clear ho0); obtain ⟨Ao29, co29, eo29⟩ := Kd.V_slice HO109.out; subst eo29) | ((with_reducible refine gate_callee (f := 14) rfl ?_); refine goesL_ (some 25) rfl rfl Try.func14 (by kernel_rfl) rfl #[.slice Ao29 t107.length co29, .agg #[.int .i64 1, .int .i64 7]] rfl (by (try simp only [List.map_toArray, List.map_cons, List.map_nil]); first | done | rfl | (simp only [List.length_drop, List.length_take]; rfl)) ?_; (with_reducible refine (nPut.calls (fun k_ => True) _ _ t107 1 7 t110 _ ?side1 A4.out).mono ?_); (case side1 => exact HO109.out); rintro e w30 ⟨v111, rfl, ho0, hb⟩; refine ⟨_, rfl, ?_⟩; have n0_ := aS (Kd.V_below (vv HO103.out) hb); have n1_ := aS (Kd.V_below (vv HO106.out) hb); have n2_ := aS (Kd.V_below (vv HO109.out) hb); have n3_ := aS (Kd.V_lower (Kd.V_mono (ok' := fun k_ => True) ho0 (fun k_ hk_ => trivial)) bz); have n4_ := aS (below_step bb hb); clear HO103; clear HO106; clear HO109; clear HB; have HO103 := n0_; have HO106 := n1_; have HO109 := n2_; have HO112 := n3_; have HB := n4_; clear n0_ n1_ n2_ n3_ n4_; (try clear hb); (try clear hb2); (try clear hk); (try clear hi); (try clear ho0); obtain ⟨Ao31, co31, eo31⟩ := Kd.V_slice HO112.out; subst eo31) | ((with_reducible refine gate_callee (f := 17) rfl ?_); refine goesL_ (some 28) rfl rfl Try.func17 (by kernel_rfl) rfl #[.slice Ao31 t110.length co31, .int .i64 1] rfl (by (try simp only [List.map_toArray, List.map_cons, List.map_nil]); first | done | rfl | (simp only [List.length_drop, List.length_take]; rfl)) ?_; (with_reducible refine (nFind.calls _ _ t110 1 t113 t114 t115 _ ?side1 ?side2 A5.out).mono ?_); (case side1 => repeat (first | exact (Kd.V_reads' HO112.out).2.2 | (with_reducible refine Kd.C_alloc ?_ _) | (with_reducible refine Kd.C_drewN ?_ _) | (with_reducible refine Kd.C_drew ?_))); (case side2 => exact (Kd.V_reads' HO112.out).2.1); rintro e w32 ⟨rfl, hb⟩; refine ⟨_, rfl, ?_⟩; have n0_ := aS (Kd.V_below (vv HO103.out) hb); have n1_ := aS (Kd.V_below (vv HO106.out) hb); have n2_ := aS (Kd.V_below (vv HO109.out) hb); have n3_ := aS (Kd.V_below (vv HO112.out) hb); have n4_ := aS (below_step bb hb); clear HO103; clear HO106; clear HO109; clear HO112; clear HB; have HO103 := n0_; have HO106 := n1_; have HO109 := n2_; have HO112 := n3_; have HB := n4_; clear n0_ n1_ n2_ n3_ n4_; (try clear hb); (try clear hb2); (try clear hk); (try clear hi)) | ((with_reducible refine gate_callee (f := 13) rfl ?_); refine goesL_ (some 35) rfl rfl Try.func13 (by kernel_rfl) rfl #[.slice Ao31 t110.length co31, .agg #[.int .i64 2, .int .i64 4, .int .i64 9]] rfl (by (try simp only [List.map_toArray, List.map_cons, List.map_nil]); first | done | rfl | (simp only [List.length_drop, List.length_take]; rfl)) ?_; (with_reducible refine (nRead.calls (fun k_ => True) _ _ t110 2 4 9 t116 _ ?side1 A6.out).mono ?_); (case side1 => exact HO112.out); rintro e w33 ⟨v117, rfl, ho0, hb⟩; refine ⟨_, rfl, ?_⟩; have n0_ := aS (Kd.V_below (vv HO103.out) hb); have n1_ := aS (Kd.V_below (vv HO106.out) hb); have n2_ := aS (Kd.V_below (vv HO109.out) hb); have n3_ := aS (Kd.V_below (vv HO112.out) hb); have n4_ := aS (Kd.V_lower (Kd.V_mono (ok' := fun k_ => True) ho0 (fun k_ hk_ => trivial)) bz); have n5_ := aS (below_step bb hb); clear HO103; clear HO106; clear HO109; clear HO112; clear HB; have HO103 := n0_; have HO106 := n1_; have HO109 := n2_; have HO112 := n3_; have HO118 := n4_; have HB := n5_; clear n0_ n1_ n2_ n3_ n4_ n5_; (try clear hb); (try clear hb2); (try clear hk); (try clear hi); (try clear ho0); obtain ⟨Ao34, co34, eo34⟩ := Kd.V_slice HO118.out; subst eo34) | ((with_reducible refine gate_callee (f := 16) rfl ?_); refine goesL_ (some 36) rfl rfl Try.func16 (by kernel_rfl) rfl #[.slice Ao34 t116.length co34] rfl (by (try simp only [List.map_toArray, List.map_cons, List.map_nil]); first | done | rfl | (simp only [List.length_drop, List.length_take]; rfl)) ?_; (with_reducible refine (nDrop.calls (fun k_ => True) _ _ t116 t119 t122 _ ?side1 A7.out).mono ?_); (case side1 => exact HO118.out); rintro e w35 ⟨v120, v123, rfl, ho0, ho1, hb⟩; refine ⟨_, rfl, ?_⟩; have n0_ := aS (Kd.V_below (vv HO103.out) hb); have n1_ := aS (Kd.V_below (vv HO106.out) hb); have n2_ := aS (Kd.V_below (vv HO109.out) hb); have n3_ := aS (Kd.V_below (vv HO112.out) hb); have n4_ := aS (Kd.V_below (vv HO118.out) hb); have n5_ := aS (Kd.V_lower (Kd.V_mono (ok' := fun k_ => True) ho0 (fun k_ hk_ => trivial)) bz); have n6_ := aS (Kd.V_lower (Kd.V_mono (ok' := fun k_ => True) ho1 (fun k_ hk_ => trivial)) bz); have n7_ := aS (below_step bb hb); clear HO103; clear HO106; clear HO109; clear HO112; clear HO118; clear HB; have HO103 := n0_; have HO106 := n1_; have HO109 := n2_; have HO112 := n3_; have HO118 := n4_; have HO121 := n5_; have HO124 := n6_; have HB := n7_; clear n0_ n1_ n2_ n3_ n4_ n5_ n6_ n7_; (try clear hb); (try clear hb2); (try clear hk); (try clear hi); (try clear ho0); (try clear ho1); obtain ⟨Ao36, co36, eo36⟩ := Kd.V_slice HO121.out; subst eo36) | ((with_reducible refine gate_callee (f := 17) rfl ?_); refine goesL_ (some 41) rfl rfl Try.func17 (by kernel_rfl) rfl #[.slice Ao36 t119.length co36, .int .i64 1] rfl (by (try simp only [List.map_toArray, List.map_cons, List.map_nil]); first | done | rfl | (simp only [List.length_drop, List.length_take]; rfl)) ?_; (with_reducible refine (nFind.calls _ _ t119 1 t125 t126 t127 _ ?side1 ?side2 A8.out).mono ?_); (case side1 => repeat (first | exact (Kd.V_reads' HO121.out).2.2 | (with_reducible refine Kd.C_alloc ?_ _) | (with_reducible refine Kd.C_drewN ?_ _) | (with_reducible refine Kd.C_drew ?_))); (case side2 => exact (Kd.V_reads' HO121.out).2.1); rintro e w37 ⟨rfl, hb⟩; refine ⟨_, rfl, ?_⟩; have n0_ := aS (Kd.V_below (vv HO103.out) hb); have n1_ := aS (Kd.V_below (vv HO106.out) hb); have n2_ := aS (Kd.V_below (vv HO109.out) hb); have n3_ := aS (Kd.V_below (vv HO112.out) hb); have n4_ := aS (Kd.V_below (vv HO118.out) hb); have n5_ := aS (Kd.V_below (vv HO121.out) hb); have n6_ := aS (Kd.V_below (vv HO124.out) hb); have n7_ := aS (below_step bb hb); clear HO103; clear HO106; clear HO109; clear HO112; clear HO118; clear HO121; clear HO124; clear HB; have HO103 := n0_; have HO106 := n1_; have HO109 := n2_; have HO112 := n3_; have HO118 := n4_; have HO121 := n5_; have HO124 := n6_; have HB := n7_; clear n0_ n1_ n2_ n3_ n4_ n5_ n6_ n7_; (try clear hb); (try clear hb2); (try clear hk); (try clear hi)) | ((with_reducible refine gate_callee (f := 17) rfl ?_); refine goesL_ (some 47) rfl rfl Try.func17 (by kernel_rfl) rfl #[.slice Ao36 t119.length co36, .int .i64 2] rfl (by (try simp only [List.map_toArray, List.map_cons, List.map_nil]); first | done | rfl | (simp only [List.length_drop, List.length_take]; rfl)) ?_; (with_reducible refine (nFind.calls _ _ t119 2 t128 t129 t130 _ ?side1 ?side2 A9.out).mono ?_); (case side1 => repeat (first | exact (Kd.V_reads' HO121.out).2.2 | (with_reducible refine Kd.C_alloc ?_ _) | (with_reducible refine Kd.C_drewN ?_ _) | (with_reducible refine Kd.C_drew ?_))); (case side2 => exact (Kd.V_reads' HO121.out).2.1); rintro e w38 ⟨rfl, hb⟩; refine ⟨_, rfl, ?_⟩; have n0_ := aS (Kd.V_below (vv HO103.out) hb); have n1_ := aS (Kd.V_below (vv HO106.out) hb); have n2_ := aS (Kd.V_below (vv HO109.out) hb); have n3_ := aS (Kd.V_below (vv HO112.out) hb); have n4_ := aS (Kd.V_below (vv HO118.out) hb); have n5_ := aS (Kd.V_below (vv HO121.out) hb); have n6_ := aS (Kd.V_below (vv HO124.out) hb); have n7_ := aS (below_step bb hb); clear HO103; clear HO106; clear HO109; clear HO112; clear HO118; clear HO121; clear HO124; clear HB; have HO103 := n0_; have HO106 := n1_; have HO109 := n2_; have HO112 := n3_; have HO118 := n4_; have HO121 := n5_; have HO124 := n6_; have HB := n7_; clear n0_ n1_ n2_ n3_ n4_ n5_ n6_ n7_; (try clear hb); (try clear hb2); (try clear hk); (try clear hi)) | ((with_reducible refine gate_callee (f := 15) rfl ?_); refine goesL_ (some 52) rfl rfl Try.func15 (by kernel_rfl) rfl #[.slice Ao31 t110.length co31] rfl (by (try simp only [List.map_toArray, List.map_cons, List.map_nil]); first | done | rfl | (simp only [List.length_drop, List.length_take]; rfl)) ?_; (with_reducible refine (nEnd.calls (fun k_ => True) _ _ t110 t131 _ ?side1 A10.out).mono ?_); (case side1 => exact HO112.out); rintro e w39 ⟨v132, rfl, ho0, hb⟩; refine ⟨_, rfl, ?_⟩; have n0_ := aS (Kd.V_below (vv HO103.out) hb); have n1_ := aS (Kd.V_below (vv HO106.out) hb); have n2_ := aS (Kd.V_below (vv HO109.out) hb); have n3_ := aS (Kd.V_below (vv HO112.out) hb); have n4_ := aS (Kd.V_below (vv HO118.out) hb); have n5_ := aS (Kd.V_below (vv HO121.out) hb); have n6_ := aS (Kd.V_below (vv HO124.out) hb); have n7_ := aS (Kd.V_lower (Kd.V_mono (ok' := fun k_ => True) ho0 (fun k_ hk_ => trivial)) bz); have n8_ := aS (below_step bb hb); clear HO103; clear HO106; clear HO109; clear HO112; clear HO118; clear HO121; clear HO124; clear HB; have HO103 := n0_; have HO106 := n1_; have HO109 := n2_; have HO112 := n3_; have HO118 := n4_; have HO121 := n5_; have HO124 := n6_; have HO133 := n7_; have HB := n8_; clear n0_ n1_ n2_ n3_ n4_ n5_ n6_ n7_ n8_; (try clear hb); (try clear hb2); (try clear hk); (try clear hi); (try clear ho0); obtain ⟨Ao40, co40, eo40⟩ := Kd.V_slice HO133.out; subst eo40) | ((with_reducible refine gate_callee (f := 17) rfl ?_); refine goesL_ (some 55) rfl rfl Try.func17 (by kernel_rfl) rfl #[.slice Ao40 t131.length co40, .int .i64 1] rfl (by (try simp only [List.map_toArray, List.map_cons, List.map_nil]); first | done | rfl | (simp only [List.length_drop, List.length_take]; rfl)) ?_; (with_reducible refine (nFind.calls _ _ t131 1 t134 t135 t136 _ ?side1 ?side2 A11.out).mono ?_); (case side1 => repeat (first | exact (Kd.V_reads' HO133.out).2.2 | (with_reducible refine Kd.C_alloc ?_ _) | (with_reducible refine Kd.C_drewN ?_ _) | (with_reducible refine Kd.C_drew ?_))); (case side2 => exact (Kd.V_reads' HO133.out).2.1); rintro e w41 ⟨rfl, hb⟩; refine ⟨_, rfl, ?_⟩; have n0_ := aS (Kd.V_below (vv HO103.out) hb); have n1_ := aS (Kd.V_below (vv HO106.out) hb); have n2_ := aS (Kd.V_below (vv HO109.out) hb); have n3_ := aS (Kd.V_below (vv HO112.out) hb); have n4_ := aS (Kd.V_below (vv HO118.out) hb); have n5_ := aS (Kd.V_below (vv HO121.out) hb); have n6_ := aS (Kd.V_below (vv HO124.out) hb); have n7_ := aS (Kd.V_below (vv HO133.out) hb); have n8_ := aS (below_step bb hb); clear HO103; clear HO106; clear HO109; clear HO112; clear HO118; clear HO121; clear HO124; clear HO133; clear HB; have HO103 := n0_; have HO106 := n1_; have HO109 := n2_; have HO112 := n3_; have HO118 := n4_; have HO121 := n5_; have HO124 := n6_; have HO133 := n7_; have HB := n8_; clear n0_ n1_ n2_ n3_ n4_ n5_ n6_ n7_ n8_; (try clear hb); (try clear hb2); (try clear hk); (try clear hi)) | ((with_reducible refine gate_callee (f := 17) rfl ?_); refine goesL_ (some 61) rfl rfl Try.func17 (by kernel_rfl) rfl #[.slice Ao40 t131.length co40, .int .i64 2] rfl (by (try simp only [List.map_toArray, List.map_cons, List.map_nil]); first | done | rfl | (simp only [List.length_drop, List.length_take]; rfl)) ?_; (with_reducible refine (nFind.calls _ _ t131 2 t137 t138 t139 _ ?side1 ?side2 A12.out).mono ?_); (case side1 => repeat (first | exact (Kd.V_reads' HO133.out).2.2 | (with_reducible refine Kd.C_alloc ?_ _) | (with_reducible refine Kd.C_drewN ?_ _) | (with_reducible refine Kd.C_drew ?_))); (case side2 => exact (Kd.V_reads' HO133.out).2.1); rintro e w42 ⟨rfl, hb⟩; refine ⟨_, rfl, ?_⟩; have n0_ := aS (Kd.V_below (vv HO103.out) hb); have n1_ := aS (Kd.V_below (vv HO106.out) hb); have n2_ := aS (Kd.V_below (vv HO109.out) hb); have n3_ := aS (Kd.V_below (vv HO112.out) hb); have n4_ := aS (Kd.V_below (vv HO118.out) hb); have n5_ := aS (Kd.V_below (vv HO121.out) hb); have n6_ := aS (Kd.V_below (vv HO124.out) hb); have n7_ := aS (Kd.V_below (vv HO133.out) hb); have n8_ := aS (below_step bb hb); clear HO103; clear HO106; clear HO109; clear HO112; clear HO118; clear HO121; clear HO124; clear HO133; clear HB; have HO103 := n0_; have HO106 := n1_; have HO109 := n2_; have HO112 := n3_; have HO118 := n4_; have HO121 := n5_; have HO124 := n6_; have HO133 := n7_; have HB := n8_; clear n0_ n1_ n2_ n3_ n4_ n5_ n6_ n7_ n8_; (try clear hb); (try clear hb2); (try clear hk); (try clear hi)))
 go_ret
 exact ⟨by first | rfl | (simp [errW_none, errW_some] <;> rfl) | (simp [*, errW_none, errW_some] <;> rfl), by repeat (first | (with_reducible first | exact HB.out | apply below_alloc | apply pw_below_drewN | apply below_drew1) | exact HB.out)⟩ }
 {
 rw [if_neg c23] at H
 exact absurd H (by simp) } }
 {
 rw [if_neg c22] at H
 exact absurd H (by simp) } }
 {
 rw [if_neg c21] at H
 exact absurd H (by simp) } }
 {
 rw [if_neg c20] at H
 exact absurd H (by simp) } }
 {
 rw [if_neg c19] at H
 exact absurd H (by simp) } }
 {
 rw [if_neg c18] at H
 exact absurd H (by simp) } }
 {
 rw [if_neg c17] at H
 exact absurd H (by simp) } }
 {
 rw [if_neg c16] at H
 exact absurd H (by simp) } }
 {
 rw [if_neg c15] at H
 exact absurd H (by simp) } }
 {
 rw [if_neg c14] at H
 exact absurd H (by simp) } }
 {
 rw [if_neg c13] at H
 exact absurd H (by simp) }

end Go.Proofs.Ytfojpobblebigaa.P
namespace Go.Proofs.Ytfojpobblebigaa.P
open Go.RowKit Go.Proofs.YtfojpobblebigaaW.PrintWords Go.Proofs.YtfojpobblebigaaW.PrintLast Go.Proofs.YtfojpobblebigaaW.PrintMore
attribute [local go_sem] max2_int min2_int max_two min_two max_three min_three max_four min_four   -- for this text's walks alone
set_option linter.unusedVariables false
set_option linter.unusedSimpArgs false

/-! ### hallmootref13_Few: function 34 -/
def hallmootref13_Few.l0 : Nat → List (S62) → Int → Option (Bool)
  | 0, _, _ => none
  | k + 1, x0, x3 => if x3 < (x0.length : Int) then (if 0 ≤ x3 then (if (((rd_T62 x0 x3).f0).length : Int) > 20 then (some false) else (if (((rd_T62 x0 x3).f1).length : Int) > 20 then (some false) else (if (((rd_T62 x0 x3).f2).length : Int) > 20 then (some false) else (hallmootref13_Few.l0 k x0 (wrap64 (x3 + 1)))))) else (none)) else (some true)
def hallmootref13_Few.f (k : Nat) (l0 : List (S62)) : Option (Bool) := if (l0.length : Int) > 12 then (some false) else (hallmootref13_Few.l0 k l0 0)
theorem hallmootref13_Few.mono_l : ∀ k, (∀ y0 y1, LeO (hallmootref13_Few.l0 k y0 y1) (hallmootref13_Few.l0 (k + 1) y0 y1))
  | 0 => fun _ _ r h => by simp [hallmootref13_Few.l0] at h
  | k + 1 => by
    have ih0 := hallmootref13_Few.mono_l k
    · intro y0 y1
      unfold hallmootref13_Few.l0
      repeat' first
      | (with_reducible exact ih0 _ _)
      | (with_reducible exact LeO.refl _)
      | (with_reducible exact LeO.none _)
      | (with_reducible refine LeO.ite ?_ ?_)
      | (with_reducible refine LeO.bind ?_ (fun _ => ?_))
      | exact ih0 _ _
      | exact LeO.none _
      | refine LeO.ite ?_ ?_
      | refine LeO.bind ?_ (fun _ => ?_)
theorem hallmootref13_Few.mono : ∀ a0 k, LeO (hallmootref13_Few.f k a0) (hallmootref13_Few.f (k + 1) a0) := by
 intro a0 k
 have ih0 := hallmootref13_Few.mono_l k
 unfold hallmootref13_Few.f
 repeat' first | (with_reducible exact ih0 _ _) | (with_reducible exact LeO.refl _) | (with_reducible exact LeO.none _) | (with_reducible refine LeO.ite ?_ ?_) | (with_reducible refine LeO.bind ?_ (fun _ => ?_)) | exact ih0 _ _ | exact LeO.none _ | refine LeO.ite ?_ ?_ | refine LeO.bind ?_ (fun _ => ?_)
set_option maxHeartbeats 8000000 in
set_option maxRecDepth 100000 in
theorem hallmootref13_Few.calls (k : Nat) (A0 : Option Addr) (c0 : Nat) (l0 : List (S62)) (r : Bool) (w : World) (hr0 : Kd.C k62 w A0 l0.length l0) (hc0 : l0.length ≤ c0) (h : hallmootref13_Few.f k l0 = some r) : Calls Try.prog 34 #[.slice A0 l0.length c0] w fun e w' => e = .returned (.bool r) ∧ Drawn0 w w' := by
 have HR0 := aS hr0
 have HC0 := aS hc0
 clear hr0 hc0
 have H : (if (l0.length : Int) > 12 then (some false) else (hallmootref13_Few.l0 k l0 0)) = some r := h
 clear h
 by_cases c2 : (l0.length : Int) > 12
 {
 rw [if_pos c2] at H
 have c2b0 : decide (12 < (l0.length : Int)) = true := decide_eq_true c2
 have c2b1 : decide (12 < l0.length) = true := decide_eq_true (by omega)
 clear c2
 obtain rfl := Option.some.inj H
 go_enter Try.func34, Try.ntmps34
 go_wp2
 go_ret
 exact ⟨by first | rfl | (simp; done) | (simp [*]; done), by repeat (first | exact Drawn0.refl _ | apply Drawn0.step)⟩ }
 {
 rw [if_neg c2] at H
 have c2b0 : decide (12 < (l0.length : Int)) = false := decide_eq_false c2
 have c2b1 : decide (12 < l0.length) = false := decide_eq_false (by omega)
 clear c2
 have H' := aS H
 clear H
 go_enter Try.func34, Try.ntmps34
 go_wp2
 go_loopg [3] k (fun kq v3 w' => ∃ (x3_1 : Int), v3 = .int .i64 x3_1 ∧ Aside0 (hallmootref13_Few.l0 kq l0 x3_1 = some r) ∧ Aside0 (kq ≤ k) ∧ Drawn0 w w')
 case atStart => exact ⟨(0), (by first | rfl | (simp; done) | (simp [*]; done)), H', ⟨Nat.le_refl _⟩, by repeat (first | exact Drawn0.refl _ | apply Drawn0.step)⟩
 case round =>
  clear H'
  try clear c2
  try clear c2b0
  try clear c2b1
  try clear p2
  obtain ⟨x3_1, rfl, HA, HK1, ⟨m1, rfl⟩⟩ := hrel
  cases gk with
  | zero => exact absurd HA.out (by simp [hallmootref13_Few.l0])
  | succ k1 => {
  have H := HA.out
  clear HA
  simp only [hallmootref13_Few.l0] at H
  by_cases c3 : x3_1 < (l0.length : Int)
  {
  rw [if_pos c3] at H
  have c3b0 : decide (x3_1 < (l0.length : Int)) = true := decide_eq_true c3
  clear c3
  by_cases c4 : 0 ≤ x3_1
  {
  rw [if_pos c4] at H
  have c4b0 : decide (0 ≤ x3_1) = true := decide_eq_true c4
  clear c4
  by_cases c5 : (((rd_T62 l0 x3_1).f0).length : Int) > 20
  {
  rw [if_pos c5] at H
  have c5b0 : decide (20 < (((rd_T62 l0 x3_1).f0).length : Int)) = true := decide_eq_true c5
  have c5b1 : decide (20 < ((rd_T62 l0 x3_1).f0).length) = true := decide_eq_true (by omega)
  clear c5
  obtain rfl := Option.some.inj H
  have p140 : 0 ≤ (x3_1 : Int) := dd
  have q140 : x3_1 < (l0.length : Int) := dd
  obtain ⟨ad140, A140_0, c140_0, A140_1, c140_1, A140_2, c140_2, e140, hx140_0, hx140_1, hx140_2, hl140_0, hi140_0, hl140_1, hi140_1, hl140_2, hi140_2⟩ := at_T62 HR0.out x3_1 p140 q140
  cases e140
  have HR140_0 := aS hi140_0
  have HC140_0 := aS hl140_0
  clear hi140_0 hl140_0
  have HR140_1 := aS hi140_1
  have HC140_1 := aS hl140_1
  clear hi140_1 hl140_1
  have HR140_2 := aS hi140_2
  have HC140_2 := aS hl140_2
  clear hi140_2 hl140_2
  replace p140 := eq_true p140
  replace q140 := eq_true q140
  go_wp2
  go_ret
  exact ⟨by first | rfl | (simp; done) | (simp [*]; done), by repeat (first | exact Drawn0.refl _ | apply Drawn0.step)⟩ }
  {
  rw [if_neg c5] at H
  have c5b0 : decide (20 < (((rd_T62 l0 x3_1).f0).length : Int)) = false := decide_eq_false c5
  have c5b1 : decide (20 < ((rd_T62 l0 x3_1).f0).length) = false := decide_eq_false (by omega)
  clear c5
  by_cases c6 : (((rd_T62 l0 x3_1).f1).length : Int) > 20
  {
  rw [if_pos c6] at H
  have c6b0 : decide (20 < (((rd_T62 l0 x3_1).f1).length : Int)) = true := decide_eq_true c6
  have c6b1 : decide (20 < ((rd_T62 l0 x3_1).f1).length) = true := decide_eq_true (by omega)
  clear c6
  obtain rfl := Option.some.inj H
  have p140 : 0 ≤ (x3_1 : Int) := dd
  have q140 : x3_1 < (l0.length : Int) := dd
  obtain ⟨ad140, A140_0, c140_0, A140_1, c140_1, A140_2, c140_2, e140, hx140_0, hx140_1, hx140_2, hl140_0, hi140_0, hl140_1, hi140_1, hl140_2, hi140_2⟩ := at_T62 HR0.out x3_1 p140 q140
  cases e140
  have HR140_0 := aS hi140_0
  have HC140_0 := aS hl140_0
  clear hi140_0 hl140_0
  have HR140_1 := aS hi140_1
  have HC140_1 := aS hl140_1
  clear hi140_1 hl140_1
  have HR140_2 := aS hi140_2
  have HC140_2 := aS hl140_2
  clear hi140_2 hl140_2
  replace p140 := eq_true p140
  replace q140 := eq_true q140
  have p141 : 0 ≤ (x3_1 : Int) := dd
  have q141 : x3_1 < (l0.length : Int) := dd
  obtain ⟨ad141, A141_0, c141_0, A141_1, c141_1, A141_2, c141_2, e141, hx141_0, hx141_1, hx141_2, hl141_0, hi141_0, hl141_1, hi141_1, hl141_2, hi141_2⟩ := at_T62 HR0.out x3_1 p141 q141
  obtain rfl : ad140 = ad141 := (by injection e141)
  have HR141_0 := aS hi141_0
  have HC141_0 := aS hl141_0
  clear hi141_0 hl141_0
  have HR141_1 := aS hi141_1
  have HC141_1 := aS hl141_1
  clear hi141_1 hl141_1
  have HR141_2 := aS hi141_2
  have HC141_2 := aS hl141_2
  clear hi141_2 hl141_2
  replace p141 := eq_true p141
  replace q141 := eq_true q141
  have ea_ := Option.some.inj (hx140_0.symm.trans hx141_0)
  injection ea_ with ea_ en_ ec_
  subst ea_
  subst ec_
  clear en_
  have ea_ := Option.some.inj (hx140_1.symm.trans hx141_1)
  injection ea_ with ea_ en_ ec_
  subst ea_
  subst ec_
  clear en_
  have ea_ := Option.some.inj (hx140_2.symm.trans hx141_2)
  injection ea_ with ea_ en_ ec_
  subst ea_
  subst ec_
  clear en_
  go_wp2
  go_ret
  exact ⟨by first | rfl | (simp; done) | (simp [*]; done), by repeat (first | exact Drawn0.refl _ | apply Drawn0.step)⟩ }
  {
  rw [if_neg c6] at H
  have c6b0 : decide (20 < (((rd_T62 l0 x3_1).f1).length : Int)) = false := decide_eq_false c6
  have c6b1 : decide (20 < ((rd_T62 l0 x3_1).f1).length) = false := decide_eq_false (by omega)
  clear c6
  by_cases c7 : (((rd_T62 l0 x3_1).f2).length : Int) > 20
  {
  rw [if_pos c7] at H
  have c7b0 : decide (20 < (((rd_T62 l0 x3_1).f2).length : Int)) = true := decide_eq_true c7
  have c7b1 : decide (20 < ((rd_T62 l0 x3_1).f2).length) = true := decide_eq_true (by omega)
  clear c7
  obtain rfl := Option.some.inj H
  have p140 : 0 ≤ (x3_1 : Int) := dd
  have q140 : x3_1 < (l0.length : Int) := dd
  obtain ⟨ad140, A140_0, c140_0, A140_1, c140_1, A140_2, c140_2, e140, hx140_0, hx140_1, hx140_2, hl140_0, hi140_0, hl140_1, hi140_1, hl140_2, hi140_2⟩ := at_T62 HR0.out x3_1 p140 q140
  cases e140
  have HR140_0 := aS hi140_0
  have HC140_0 := aS hl140_0
  clear hi140_0 hl140_0
  have HR140_1 := aS hi140_1
  have HC140_1 := aS hl140_1
  clear hi140_1 hl140_1
  have HR140_2 := aS hi140_2
  have HC140_2 := aS hl140_2
  clear hi140_2 hl140_2
  replace p140 := eq_true p140
  replace q140 := eq_true q140
  have p141 : 0 ≤ (x3_1 : Int) := dd
  have q141 : x3_1 < (l0.length : Int) := dd
  obtain ⟨ad141, A141_0, c141_0, A141_1, c141_1, A141_2, c141_2, e141, hx141_0, hx141_1, hx141_2, hl141_0, hi141_0, hl141_1, hi141_1, hl141_2, hi141_2⟩ := at_T62 HR0.out x3_1 p141 q141
  obtain rfl : ad140 = ad141 := (by injection e141)
  have HR141_0 := aS hi141_0
  have HC141_0 := aS hl141_0
  clear hi141_0 hl141_0
  have HR141_1 := aS hi141_1
  have HC141_1 := aS hl141_1
  clear hi141_1 hl141_1
  have HR141_2 := aS hi141_2
  have HC141_2 := aS hl141_2
  clear hi141_2 hl141_2
  replace p141 := eq_true p141
  replace q141 := eq_true q141
  have ea_ := Option.some.inj (hx140_0.symm.trans hx141_0)
  injection ea_ with ea_ en_ ec_
  subst ea_
  subst ec_
  clear en_
  have ea_ := Option.some.inj (hx140_1.symm.trans hx141_1)
  injection ea_ with ea_ en_ ec_
  subst ea_
  subst ec_
  clear en_
  have ea_ := Option.some.inj (hx140_2.symm.trans hx141_2)
  injection ea_ with ea_ en_ ec_
  subst ea_
  subst ec_
  clear en_
  have p142 : 0 ≤ (x3_1 : Int) := dd
  have q142 : x3_1 < (l0.length : Int) := dd
  obtain ⟨ad142, A142_0, c142_0, A142_1, c142_1, A142_2, c142_2, e142, hx142_0, hx142_1, hx142_2, hl142_0, hi142_0, hl142_1, hi142_1, hl142_2, hi142_2⟩ := at_T62 HR0.out x3_1 p142 q142
  obtain rfl : ad140 = ad142 := (by injection e142)
  have HR142_0 := aS hi142_0
  have HC142_0 := aS hl142_0
  clear hi142_0 hl142_0
  have HR142_1 := aS hi142_1
  have HC142_1 := aS hl142_1
  clear hi142_1 hl142_1
  have HR142_2 := aS hi142_2
  have HC142_2 := aS hl142_2
  clear hi142_2 hl142_2
  replace p142 := eq_true p142
  replace q142 := eq_true q142
  have ea_ := Option.some.inj (hx140_0.symm.trans hx142_0)
  injection ea_ with ea_ en_ ec_
  subst ea_
  subst ec_
  clear en_
  have ea_ := Option.some.inj (hx140_1.symm.trans hx142_1)
  injection ea_ with ea_ en_ ec_
  subst ea_
  subst ec_
  clear en_
  have ea_ := Option.some.inj (hx140_2.symm.trans hx142_2)
  injection ea_ with ea_ en_ ec_
  subst ea_
  subst ec_
  clear en_
  go_wp2
  go_ret
  exact ⟨by first | rfl | (simp; done) | (simp [*]; done), by repeat (first | exact Drawn0.refl _ | apply Drawn0.step)⟩ }
  {
  rw [if_neg c7] at H
  have c7b0 : decide (20 < (((rd_T62 l0 x3_1).f2).length : Int)) = false := decide_eq_false c7
  have c7b1 : decide (20 < ((rd_T62 l0 x3_1).f2).length) = false := decide_eq_false (by omega)
  clear c7
  have H' := aS H
  clear H
  have p140 : 0 ≤ (x3_1 : Int) := dd
  have q140 : x3_1 < (l0.length : Int) := dd
  obtain ⟨ad140, A140_0, c140_0, A140_1, c140_1, A140_2, c140_2, e140, hx140_0, hx140_1, hx140_2, hl140_0, hi140_0, hl140_1, hi140_1, hl140_2, hi140_2⟩ := at_T62 HR0.out x3_1 p140 q140
  cases e140
  have HR140_0 := aS hi140_0
  have HC140_0 := aS hl140_0
  clear hi140_0 hl140_0
  have HR140_1 := aS hi140_1
  have HC140_1 := aS hl140_1
  clear hi140_1 hl140_1
  have HR140_2 := aS hi140_2
  have HC140_2 := aS hl140_2
  clear hi140_2 hl140_2
  replace p140 := eq_true p140
  replace q140 := eq_true q140
  have p141 : 0 ≤ (x3_1 : Int) := dd
  have q141 : x3_1 < (l0.length : Int) := dd
  obtain ⟨ad141, A141_0, c141_0, A141_1, c141_1, A141_2, c141_2, e141, hx141_0, hx141_1, hx141_2, hl141_0, hi141_0, hl141_1, hi141_1, hl141_2, hi141_2⟩ := at_T62 HR0.out x3_1 p141 q141
  obtain rfl : ad140 = ad141 := (by injection e141)
  have HR141_0 := aS hi141_0
  have HC141_0 := aS hl141_0
  clear hi141_0 hl141_0
  have HR141_1 := aS hi141_1
  have HC141_1 := aS hl141_1
  clear hi141_1 hl141_1
  have HR141_2 := aS hi141_2
  have HC141_2 := aS hl141_2
  clear hi141_2 hl141_2
  replace p141 := eq_true p141
  replace q141 := eq_true q141
  have ea_ := Option.some.inj (hx140_0.symm.trans hx141_0)
  injection ea_ with ea_ en_ ec_
  subst ea_
  subst ec_
  clear en_
  have ea_ := Option.some.inj (hx140_1.symm.trans hx141_1)
  injection ea_ with ea_ en_ ec_
  subst ea_
  subst ec_
  clear en_
  have ea_ := Option.some.inj (hx140_2.symm.trans hx141_2)
  injection ea_ with ea_ en_ ec_
  subst ea_
  subst ec_
  clear en_
  have p142 : 0 ≤ (x3_1 : Int) := dd
  have q142 : x3_1 < (l0.length : Int) := dd
  obtain ⟨ad142, A142_0, c142_0, A142_1, c142_1, A142_2, c142_2, e142, hx142_0, hx142_1, hx142_2, hl142_0, hi142_0, hl142_1, hi142_1, hl142_2, hi142_2⟩ := at_T62 HR0.out x3_1 p142 q142
  obtain rfl : ad140 = ad142 := (by injection e142)
  have HR142_0 := aS hi142_0
  have HC142_0 := aS hl142_0
  clear hi142_0 hl142_0
  have HR142_1 := aS hi142_1
  have HC142_1 := aS hl142_1
  clear hi142_1 hl142_1
  have HR142_2 := aS hi142_2
  have HC142_2 := aS hl142_2
  clear hi142_2 hl142_2
  replace p142 := eq_true p142
  replace q142 := eq_true q142
  have ea_ := Option.some.inj (hx140_0.symm.trans hx142_0)
  injection ea_ with ea_ en_ ec_
  subst ea_
  subst ec_
  clear en_
  have ea_ := Option.some.inj (hx140_1.symm.trans hx142_1)
  injection ea_ with ea_ en_ ec_
  subst ea_
  subst ec_
  clear en_
  have ea_ := Option.some.inj (hx140_2.symm.trans hx142_2)
  injection ea_ with ea_ en_ ec_
  subst ea_
  subst ec_
  clear en_
  go_wp2
  go_roundg k1
  case measure => have := HK1.out; omega
  case rel => exact ⟨(wrap64 (x3_1 + 1)), (by first | rfl | (simp; done) | (simp [*]; done)), H', ⟨by have := HK1.out; omega⟩, by repeat (first | exact Drawn0.refl _ | apply Drawn0.step)⟩ } } } }
  {
  rw [if_neg c4] at H
  exact absurd H (by simp) } }
  {
  rw [if_neg c3] at H
  have c3b0 : decide (x3_1 < (l0.length : Int)) = false := decide_eq_false c3
  clear c3
  obtain rfl := Option.some.inj H
  go_wp2
  go_ret
  exact ⟨by first | rfl | (simp; done) | (simp [*]; done), by repeat (first | exact Drawn0.refl _ | apply Drawn0.step)⟩ } } }

end Go.Proofs.Ytfojpobblebigaa.P
namespace Go.Proofs.Ytfojpobblebigaa.P
open Go.RowKit Go.Proofs.YtfojpobblebigaaW.PrintWords Go.Proofs.YtfojpobblebigaaW.PrintLast Go.Proofs.YtfojpobblebigaaW.PrintMore
attribute [local go_sem] max2_int min2_int max_two min_two max_three min_three max_four min_four   -- for this text's walks alone
set_option linter.unusedVariables false
set_option linter.unusedSimpArgs false

/-! ### hallmootlaw13_few: function 11 -/
def hallmootlaw13_few.f (k : Nat) (l0 : List (S62)) : Option (Bool) := (hallmootref13_Few.f k l0).bind fun t143 => (some t143)
theorem hallmootlaw13_few.mono : ∀ a0 k, LeO (hallmootlaw13_few.f k a0) (hallmootlaw13_few.f (k + 1) a0) := by
 intro a0 k
 unfold hallmootlaw13_few.f
 repeat' first | (with_reducible exact hallmootref13_Few.mono _ _) | (with_reducible exact LeO.refl _) | (with_reducible exact LeO.none _) | (with_reducible refine LeO.ite ?_ ?_) | (with_reducible refine LeO.bind ?_ (fun _ => ?_)) | exact hallmootref13_Few.mono _ _ | exact LeO.none _ | refine LeO.ite ?_ ?_ | refine LeO.bind ?_ (fun _ => ?_)
set_option maxHeartbeats 8000000 in
set_option maxRecDepth 100000 in
theorem hallmootlaw13_few.calls (k : Nat) (A0 : Option Addr) (c0 : Nat) (l0 : List (S62)) (r : Bool) (w : World) (hr0 : Kd.C k62 w A0 l0.length l0) (hc0 : l0.length ≤ c0) (h : hallmootlaw13_few.f k l0 = some r) : Calls Try.prog 11 #[.slice A0 l0.length c0] w fun e w' => e = .returned (.bool r) ∧ Drawn0 w w' := by
 have HR0 := aS hr0
 have HC0 := aS hc0
 clear hr0 hc0
 have H : ((hallmootref13_Few.f k l0).bind fun t143 => (some t143)) = some r := h
 clear h
 replace H := Option.bind_eq_some_iff.mp H
 obtain ⟨t143, A20, H⟩ := H
 replace H : (some t143) = some r := H
 have A2 := aS A20
 clear A20
 obtain rfl := Option.some.inj H
 go_enter Try.func11, Try.ntmps11
 go_wp2_with (first | ((with_reducible refine gate_callee (f := 34) rfl ?_); refine goesL_ (some 4) rfl rfl Try.func34 (by kernel_rfl) rfl #[.slice A0 l0.length c0] rfl (by (try simp only [List.map_toArray, List.map_cons, List.map_nil]); first | done | rfl | (simp only [List.length_drop, List.length_take]; rfl)) ?_; (with_reducible refine (hallmootref13_Few.calls k _ _ l0 t143 _ ?side1 ?side2 A2.out).mono ?_); (case side1 => repeat (first | exact HR0.out | (with_reducible refine Kd.C_alloc ?_ _) | (with_reducible refine Kd.C_drewN ?_ _) | (with_reducible refine Kd.C_drew ?_))); (case side2 => exact HC0.out); rintro e w' ⟨rfl, ⟨nd, rfl⟩⟩; refine ⟨_, rfl, ?_⟩))
 go_ret
 exact ⟨by first | rfl | (simp; done) | (simp [*]; done), by repeat (first | exact Drawn0.refl _ | apply Drawn0.step)⟩

end Go.Proofs.Ytfojpobblebigaa.P
namespace Go.Proofs.Ytfojpobblebigaa.Pure
open Go.RowKit Go.Proofs.Ytfojpobblebigaa.P Go.Proofs.YtfojpobblebigaaW.PrintWords
set_option linter.unusedVariables false

/-- The first read of a location. -/
def fR (loc : Int) (l : List S30) : Option S30 := l.find? (fun y => y.f0 == loc)
/-- The first write of a location. -/
def fW (loc : Int) (l : List S33) : Option S33 := l.find? (fun y => y.f0 == loc)
theorem fR_nil (loc : Int) : fR loc [] = none := rfl
theorem fW_nil (loc : Int) : fW loc [] = none := rfl
theorem fR_any (loc : Int) (l : List S30) : l.any (fun y => y.f0 == loc) = (fR loc l).isSome := by
  unfold fR; rw [Bool.eq_iff_iff]; simp
theorem fW_any (loc : Int) (l : List S33) : l.any (fun y => y.f0 == loc) = (fW loc l).isSome := by
  unfold fW; rw [Bool.eq_iff_iff]; simp
theorem fR_append (loc : Int) (a b : List S30) : fR loc (a ++ b) = (fR loc a).or (fR loc b) := List.find?_append
theorem fW_append (loc : Int) (a b : List S33) : fW loc (a ++ b) = (fW loc a).or (fW loc b) := List.find?_append
theorem fR_cons (loc : Int) (s : S30) (b : List S30) : fR loc (s :: b) = (if s.f0 = loc then some s else fR loc b) := by
  unfold fR
  rw [List.find?_cons]
  by_cases h : s.f0 = loc
  · simp [h]
  · rw [if_neg h, show (s.f0 == loc) = false from by simpa using h]
theorem fW_cons (loc : Int) (s : S33) (b : List S33) : fW loc (s :: b) = (if s.f0 = loc then some s else fW loc b) := by
  unfold fW
  rw [List.find?_cons]
  by_cases h : s.f0 = loc
  · simp [h]
  · rw [if_neg h, show (s.f0 == loc) = false from by simpa using h]
theorem fW_key {loc : Int} {l : List S33} {y : S33} (h : fW loc l = some y) : y.f0 = loc := by
  have := List.find?_some h
  simpa using this
theorem fR_key {loc : Int} {l : List S30} {y : S30} (h : fR loc l = some y) : y.f0 = loc := by
  have := List.find?_some h
  simpa using this

/-! ### reads -/
theorem fR_step (loc : Int) (a : List S30) (s : S30) : fR loc (readStep a s) = (fR loc a).or (if s.f0 = loc then some s else none) := by
  unfold readStep
  by_cases h : a.any (fun x => x.f0 == s.f0) = true
  · rw [if_pos h]
    by_cases e : s.f0 = loc
    · rw [if_pos e]
      rw [e, fR_any] at h
      obtain ⟨y, hy⟩ := Option.isSome_iff_exists.1 h
      rw [hy]; rfl
    · rw [if_neg e]; simp
  · rw [if_neg h, fR_append, fR_cons, fR_nil]
theorem fR_readL (loc : Int) : ∀ (b a : List S30), fR loc (readL a b) = (fR loc a).or (fR loc b)
  | [], a => by simp [readL, fR_nil]
  | s :: b, a => by
    have ih := fR_readL loc b (readStep a s)
    show fR loc (readL (readStep a s) b) = _
    rw [ih, fR_step, fR_cons]
    by_cases e : s.f0 = loc
    · rw [if_pos e, if_pos e]
      cases fR loc a <;> rfl
    · rw [if_neg e, if_neg e]
      simp
/-- Each location once. -/
def OnceR (l : List S30) : Prop := (l.map (·.f0)).Nodup
theorem onceR_step {a : List S30} (s : S30) (h : OnceR a) : OnceR (readStep a s) := by
  unfold readStep
  by_cases e : a.any (fun x => x.f0 == s.f0) = true
  · rw [if_pos e]; exact h
  · rw [if_neg e]
    unfold OnceR at *
    rw [List.map_append, List.nodup_append]
    refine ⟨h, by simp, fun x hx y hy => ?_⟩
    simp at hy
    subst hy
    rintro rfl
    apply e
    simp at hx ⊢
    obtain ⟨z, hz, hz2⟩ := hx
    exact ⟨z, hz, hz2⟩
theorem onceR_readL : ∀ (b : List S30) {a : List S30}, OnceR a → OnceR (readL a b)
  | [], a, h => h
  | s :: b, a, h => onceR_readL b (onceR_step s h)
theorem mem_keysR {loc : Int} {l : List S30} : loc ∈ l.map (·.f0) ↔ (fR loc l).isSome = true := by
  rw [← fR_any]; simp
/-- Lists without twice the same that hold the same are of one length. -/
theorem len_le : ∀ {a b : List Int}, a.Nodup → (∀ x, x ∈ a → x ∈ b) → a.length ≤ b.length
  | [], _, _, _ => Nat.zero_le _
  | x :: a, b, hn, hs => by
    rw [List.nodup_cons] at hn
    have hx : x ∈ b := hs x (by simp)
    have h2 : a.length ≤ (b.erase x).length := len_le hn.2 (fun y hy => by
      have hne : y ≠ x := fun e => hn.1 (e ▸ hy)
      exact (List.mem_erase_of_ne hne).2 (hs y (by simp [hy])))
    have h3 := List.length_erase_of_mem hx
    have h4 := List.length_pos_of_mem hx
    rw [List.length_cons]; omega
theorem sameR {a b : List S30} (ha : OnceR a) (hb : OnceR b) (h : ∀ loc, (fR loc a).isSome = (fR loc b).isSome) : a.length = b.length := by
  have h1 : (a.map (·.f0)).length ≤ (b.map (·.f0)).length := len_le ha (fun x hx => by rw [mem_keysR] at hx ⊢; rw [← h]; exact hx)
  have h2 : (b.map (·.f0)).length ≤ (a.map (·.f0)).length := len_le hb (fun x hx => by rw [mem_keysR] at hx ⊢; rw [h]; exact hx)
  simp only [List.length_map] at h1 h2
  omega

/-! ### writes -/
theorem fW_take_none {loc : Int} {l : List S33} {k : Nat} (h : ∀ j, j < k → ∀ hj : j < l.length, l[j].f0 ≠ loc) : fW loc (l.take k) = none := by
  unfold fW
  rw [List.find?_eq_none]
  intro x hx
  obtain ⟨j, hj, rfl⟩ := List.getElem_of_mem hx
  rw [List.length_take] at hj
  have := h j (by omega) (by omega)
  simpa using this
theorem idx_lt {l : List S33} {p : S33 → Bool} (h : l.any p = true) : l.findIdx p < l.length := by
  rw [List.findIdx_lt_length]; simpa using h
theorem fW_step (loc : Int) (a : List S33) (x : S33) : fW loc (putStep a x) = if x.f0 = loc then some x else fW loc a := by
  unfold putStep
  by_cases h : a.any (fun y => y.f0 == x.f0) = true
  · rw [if_pos h]
    have hk := idx_lt h
    generalize hkk : a.findIdx (fun y => y.f0 == x.f0) = k at hk
    have hhit : a[k].f0 = x.f0 := by
      subst hkk
      have := List.findIdx_getElem (w := hk)
      simpa using this
    have hno : ∀ j, j < k → ∀ hj : j < a.length, a[j].f0 ≠ x.f0 := by
      intro j hj hjl
      subst hkk
      have := List.not_of_lt_findIdx hj
      simpa using this
    have e1 : a = a.take k ++ a[k] :: a.drop (k + 1) := by rw [← List.drop_eq_getElem_cons hk, List.take_append_drop]
    have e2 : a.set k x = a.take k ++ x :: a.drop (k + 1) := by
      rw [List.set_eq_take_append_cons_drop, if_pos hk]
    rw [e2, fW_append, fW_cons]
    by_cases e : x.f0 = loc
    · rw [if_pos e, if_pos e, fW_take_none (fun j hj hjl => by rw [← e]; exact hno j hj hjl)]; rfl
    · rw [if_neg e, if_neg e]
      conv => rhs; rw [e1]
      rw [fW_append, fW_cons, if_neg (by rw [hhit]; exact e)]
  · rw [if_neg h]
    unfold ins
    rw [fW_append, fW_cons]
    have hno : fW x.f0 a = none := by
      rw [fW_any] at h
      cases hq : fW x.f0 a with
      | none => rfl
      | some y => rw [hq] at h; exact absurd rfl h
    by_cases e : x.f0 = loc
    · rw [if_pos e, if_pos e]
      have : fW loc (a.take (a.findIdx (fun y => decide (x.f0 < y.f0)))) = none := by
        rw [e] at hno
        have h2 := hno
        rw [← List.take_append_drop (a.findIdx (fun y => decide (x.f0 < y.f0))) a, fW_append] at h2
        cases hq : fW loc (a.take (a.findIdx (fun y => decide (x.f0 < y.f0)))) with
        | none => rfl
        | some y => rw [hq] at h2; cases h2
      rw [this]; rfl
    · rw [if_neg e, if_neg e, ← fW_append, List.take_append_drop]
/-- The last write of a location. -/
def lW (loc : Int) (l : List S33) : Option S33 := fW loc l.reverse
theorem lW_nil (loc : Int) : lW loc [] = none := rfl
theorem lW_cons (loc : Int) (x : S33) (b : List S33) : lW loc (x :: b) = (lW loc b).or (if x.f0 = loc then some x else none) := by
  unfold lW; rw [List.reverse_cons, fW_append, fW_cons, fW_nil]
theorem fW_writeL (loc : Int) : ∀ (b a : List S33), fW loc (writeL a b) = (lW loc b).or (fW loc a)
  | [], a => by simp [writeL, lW_nil]
  | x :: b, a => by
    have ih := fW_writeL loc b (putStep a x)
    show fW loc (writeL (putStep a x) b) = _
    rw [ih, fW_step, lW_cons]
    by_cases e : x.f0 = loc
    · rw [if_pos e, if_pos e]
      cases lW loc b <;> rfl
    · rw [if_neg e, if_neg e]
      cases lW loc b <;> rfl
def OnceW (l : List S33) : Prop := (l.map (·.f0)).Nodup
theorem lW_once {loc : Int} : ∀ {l : List S33}, OnceW l → lW loc l = fW loc l
  | [], _ => rfl
  | x :: l, h => by
    unfold OnceW at h
    rw [List.map_cons, List.nodup_cons] at h
    have ih := lW_once (loc := loc) (l := l) h.2
    rw [lW_cons, fW_cons, ih]
    by_cases e : x.f0 = loc
    · rw [if_pos e, if_pos e]
      have : fW loc l = none := by
        cases hq : fW loc l with
        | none => rfl
        | some y =>
          refine absurd ?_ h.1
          rw [List.mem_map]
          exact ⟨y, List.mem_of_find?_eq_some hq, by rw [fW_key hq, e]⟩
      rw [this]; rfl
    · rw [if_neg e, if_neg e]; simp
theorem onceW_step {a : List S33} (x : S33) (h : OnceW a) : OnceW (putStep a x) := by
  unfold putStep
  by_cases e : a.any (fun y => y.f0 == x.f0) = true
  · rw [if_pos e]
    have hk := idx_lt e
    have hhit := List.findIdx_getElem (w := hk)
    unfold OnceW at *
    have : (a.set (a.findIdx (fun y => y.f0 == x.f0)) x).map (·.f0) = a.map (·.f0) := by
      rw [List.map_set]
      have hx : x.f0 = (a.map (·.f0))[a.findIdx (fun y => y.f0 == x.f0)]'(by simpa using hk) := by
        rw [List.getElem_map]
        exact (by simpa using hhit : _ = x.f0).symm
      conv => lhs; arg 3; rw [hx]
      exact List.set_getElem_self _
    rw [this]; exact h
  · rw [if_neg e]
    unfold ins OnceW at *
    have hp : ((a.take (a.findIdx (fun y => decide (x.f0 < y.f0))) ++ x :: a.drop (a.findIdx (fun y => decide (x.f0 < y.f0)))).map (·.f0)).Perm ((x :: a).map (·.f0)) := by
      apply List.Perm.map
      refine List.perm_middle.trans ?_
      rw [List.take_append_drop]
    rw [hp.nodup_iff, List.map_cons, List.nodup_cons]
    refine ⟨fun hx => e ?_, h⟩
    simpa using hx
theorem onceW_writeL : ∀ (b : List S33) {a : List S33}, OnceW a → OnceW (writeL a b)
  | [], a, h => h
  | s :: b, a, h => onceW_writeL b (onceW_step s h)
end Go.Proofs.Ytfojpobblebigaa.Pure
namespace Go.Proofs.Ytfojpobblebigaa.P
open Go.RowKit Go.Proofs.YtfojpobblebigaaW.PrintWords Go.Proofs.YtfojpobblebigaaW.PrintLast Go.Proofs.YtfojpobblebigaaW.PrintMore
attribute [local go_sem] max2_int min2_int max_two min_two max_three min_three max_four min_four   -- for this text's walks alone
set_option linter.unusedVariables false
set_option linter.unusedSimpArgs false

/-! ### hallmootlaw13_once: function 32 -/
mutual
def hallmootlaw13_once.l0 : Nat → List (S62) → Int → Option (Bool)
  | 0, _, _ => none
  | k + 1, x0, x3 => if x3 < (x0.length : Int) then (hallmootlaw13_once.l1 k x0 x3 0) else (some true)
def hallmootlaw13_once.l1 : Nat → List (S62) → Int → Int → Option (Bool)
  | 0, _, _, _ => none
  | k + 1, x0, x3, x4 => if 0 ≤ x3 then (if x3 < (x0.length : Int) then (if x4 < (((rd_T62 x0 x3).f1).length : Int) then (hallmootlaw13_once.l2 k x0 x3 x4 0) else (hallmootlaw13_once.l0 k x0 (wrap64 (x3 + 1)))) else (none)) else (none)
def hallmootlaw13_once.l2 : Nat → List (S62) → Int → Int → Int → Option (Bool)
  | 0, _, _, _, _ => none
  | k + 1, x0, x3, x4, x5 => if x5 < x4 then (if 0 ≤ x3 then (if x3 < (x0.length : Int) then (if 0 ≤ x5 then (if x5 < (((rd_T62 x0 x3).f1).length : Int) then (if 0 ≤ x4 then (if x4 < (((rd_T62 x0 x3).f1).length : Int) then (if ((rd_T33 ((rd_T62 x0 x3).f1) x5).f0) = ((rd_T33 ((rd_T62 x0 x3).f1) x4).f0) then (some false) else (hallmootlaw13_once.l2 k x0 x3 x4 (wrap64 (x5 + 1)))) else (none)) else (none)) else (none)) else (none)) else (none)) else (none)) else (hallmootlaw13_once.l1 k x0 x3 (wrap64 (x4 + 1)))
end
def hallmootlaw13_once.f (k : Nat) (l0 : List (S62)) : Option (Bool) := hallmootlaw13_once.l0 k l0 0
theorem hallmootlaw13_once.mono_l : ∀ k, (∀ y0 y1, LeO (hallmootlaw13_once.l0 k y0 y1) (hallmootlaw13_once.l0 (k + 1) y0 y1)) ∧ (∀ y0 y1 y2, LeO (hallmootlaw13_once.l1 k y0 y1 y2) (hallmootlaw13_once.l1 (k + 1) y0 y1 y2)) ∧ (∀ y0 y1 y2 y3, LeO (hallmootlaw13_once.l2 k y0 y1 y2 y3) (hallmootlaw13_once.l2 (k + 1) y0 y1 y2 y3))
  | 0 => ⟨fun _ _ r h => by simp [hallmootlaw13_once.l0] at h, fun _ _ _ r h => by simp [hallmootlaw13_once.l1] at h, fun _ _ _ _ r h => by simp [hallmootlaw13_once.l2] at h⟩
  | k + 1 => by
    obtain ⟨ih0, ih1, ih2⟩ := hallmootlaw13_once.mono_l k
    refine ⟨?_, ?_, ?_⟩
    · intro y0 y1
      unfold hallmootlaw13_once.l0
      repeat' first
      | (with_reducible exact ih0 _ _)
      | (with_reducible exact ih1 _ _ _)
      | (with_reducible exact ih2 _ _ _ _)
      | (with_reducible exact LeO.refl _)
      | (with_reducible exact LeO.none _)
      | (with_reducible refine LeO.ite ?_ ?_)
      | (with_reducible refine LeO.bind ?_ (fun _ => ?_))
      | exact ih0 _ _
      | exact ih1 _ _ _
      | exact ih2 _ _ _ _
      | exact LeO.none _
      | refine LeO.ite ?_ ?_
      | refine LeO.bind ?_ (fun _ => ?_)
    · intro y0 y1 y2
      unfold hallmootlaw13_once.l1
      repeat' first
      | (with_reducible exact ih0 _ _)
      | (with_reducible exact ih1 _ _ _)
      | (with_reducible exact ih2 _ _ _ _)
      | (with_reducible exact LeO.refl _)
      | (with_reducible exact LeO.none _)
      | (with_reducible refine LeO.ite ?_ ?_)
      | (with_reducible refine LeO.bind ?_ (fun _ => ?_))
      | exact ih0 _ _
      | exact ih1 _ _ _
      | exact ih2 _ _ _ _
      | exact LeO.none _
      | refine LeO.ite ?_ ?_
      | refine LeO.bind ?_ (fun _ => ?_)
    · intro y0 y1 y2 y3
      unfold hallmootlaw13_once.l2
      repeat' first
      | (with_reducible exact ih0 _ _)
      | (with_reducible exact ih1 _ _ _)
      | (with_reducible exact ih2 _ _ _ _)
      | (with_reducible exact LeO.refl _)
      | (with_reducible exact LeO.none _)
      | (with_reducible refine LeO.ite ?_ ?_)
      | (with_reducible refine LeO.bind ?_ (fun _ => ?_))
      | exact ih0 _ _
      | exact ih1 _ _ _
      | exact ih2 _ _ _ _
      | exact LeO.none _
      | refine LeO.ite ?_ ?_
      | refine LeO.bind ?_ (fun _ => ?_)
theorem hallmootlaw13_once.mono : ∀ a0 k, LeO (hallmootlaw13_once.f k a0) (hallmootlaw13_once.f (k + 1) a0) := by
 intro a0 k
 obtain ⟨ih0, ih1, ih2⟩ := hallmootlaw13_once.mono_l k
 unfold hallmootlaw13_once.f
 repeat' first | (with_reducible exact ih0 _ _) | (with_reducible exact ih1 _ _ _) | (with_reducible exact ih2 _ _ _ _) | (with_reducible exact LeO.refl _) | (with_reducible exact LeO.none _) | (with_reducible refine LeO.ite ?_ ?_) | (with_reducible refine LeO.bind ?_ (fun _ => ?_)) | exact ih0 _ _ | exact ih1 _ _ _ | exact ih2 _ _ _ _ | exact LeO.none _ | refine LeO.ite ?_ ?_ | refine LeO.bind ?_ (fun _ => ?_)
set_option maxHeartbeats 8000000 in
set_option maxRecDepth 100000 in
theorem hallmootlaw13_once.calls (k : Nat) (A0 : Option Addr) (c0 : Nat) (l0 : List (S62)) (r : Bool) (w : World) (hr0 : Kd.C k62 w A0 l0.length l0) (hc0 : l0.length ≤ c0) (h : hallmootlaw13_once.f k l0 = some r) : Calls Try.prog 32 #[.slice A0 l0.length c0] w fun e w' => e = .returned (.bool r) ∧ Drawn0 w w' := by
 have HR0 := aS hr0
 have HC0 := aS hc0
 clear hr0 hc0
 have H : (hallmootlaw13_once.l0 k l0 0) = some r := h
 clear h
 have H' := aS H
 clear H
 go_enter Try.func32, Try.ntmps32
 go_wp2
 repeat (go_quiet (fail); try go_wp2)
 go_loopg [3] k (fun kq v3 w' => ∃ (x3_1 : Int), v3 = .int .i64 x3_1 ∧ Aside0 (hallmootlaw13_once.l0 kq l0 x3_1 = some r) ∧ Aside0 (kq ≤ k) ∧ Drawn0 w w')
 case atStart => exact ⟨(0), (by first | rfl | (simp; done) | (simp [*]; done)), H', ⟨Nat.le_refl _⟩, by repeat (first | exact Drawn0.refl _ | apply Drawn0.step)⟩
 case round =>
  clear H'
  obtain ⟨x3_1, rfl, HA, HK1, ⟨m1, rfl⟩⟩ := hrel
  cases gk with
  | zero => exact absurd HA.out (by simp [hallmootlaw13_once.l0])
  | succ k1 => {
  have H := HA.out
  clear HA
  simp only [hallmootlaw13_once.l0] at H
  by_cases c2 : x3_1 < (l0.length : Int)
  {
  rw [if_pos c2] at H
  have c2b0 : decide (x3_1 < (l0.length : Int)) = true := decide_eq_true c2
  clear c2
  have H' := aS H
  clear H
  go_wp2
  repeat (go_quiet (fail); try go_wp2)
  go_loopg [4] k1 (fun kq v4 w' => ∃ (x4_2 : Int), v4 = .int .i64 x4_2 ∧ Aside0 (hallmootlaw13_once.l1 kq l0 x3_1 x4_2 = some r) ∧ Aside0 (kq ≤ k1) ∧ Drawn0 w w')
  case atStart => exact ⟨(0), (by first | rfl | (simp; done) | (simp [*]; done)), H', ⟨Nat.le_refl _⟩, by repeat (first | exact Drawn0.refl _ | apply Drawn0.step)⟩
  case round =>
   clear H'
   try clear c2
   try clear c2b0
   try clear p2
   obtain ⟨x4_2, rfl, HA, HK2, ⟨m2, rfl⟩⟩ := hrel
   cases gk with
   | zero => exact absurd HA.out (by simp [hallmootlaw13_once.l1])
   | succ k2 => {
   have H := HA.out
   clear HA
   simp only [hallmootlaw13_once.l1] at H
   by_cases c3 : 0 ≤ x3_1
   {
   rw [if_pos c3] at H
   have c3b0 : decide (0 ≤ x3_1) = true := decide_eq_true c3
   clear c3
   by_cases c4 : x3_1 < (l0.length : Int)
   {
   rw [if_pos c4] at H
   have c4b0 : decide (x3_1 < (l0.length : Int)) = true := decide_eq_true c4
   clear c4
   by_cases c5 : x4_2 < (((rd_T62 l0 x3_1).f1).length : Int)
   {
   rw [if_pos c5] at H
   have c5b0 : decide (x4_2 < (((rd_T62 l0 x3_1).f1).length : Int)) = true := decide_eq_true c5
   clear c5
   have H' := aS H
   clear H
   have p476 : 0 ≤ (x3_1 : Int) := dd
   have q476 : x3_1 < (l0.length : Int) := dd
   obtain ⟨ad476, A476_0, c476_0, A476_1, c476_1, A476_2, c476_2, e476, hx476_0, hx476_1, hx476_2, hl476_0, hi476_0, hl476_1, hi476_1, hl476_2, hi476_2⟩ := at_T62 HR0.out x3_1 p476 q476
   cases e476
   have HR476_0 := aS hi476_0
   have HC476_0 := aS hl476_0
   clear hi476_0 hl476_0
   have HR476_1 := aS hi476_1
   have HC476_1 := aS hl476_1
   clear hi476_1 hl476_1
   have HR476_2 := aS hi476_2
   have HC476_2 := aS hl476_2
   clear hi476_2 hl476_2
   replace p476 := eq_true p476
   replace q476 := eq_true q476
   go_wp2
   repeat (go_quiet (fail); try go_wp2)
   go_loopg [5] k2 (fun kq v5 w' => ∃ (x5_3 : Int), v5 = .int .i64 x5_3 ∧ Aside0 (hallmootlaw13_once.l2 kq l0 x3_1 x4_2 x5_3 = some r) ∧ Aside0 (kq ≤ k2) ∧ Drawn0 w w')
   case atStart => exact ⟨(0), (by first | rfl | (simp; done) | (simp [*]; done)), H', ⟨Nat.le_refl _⟩, by repeat (first | exact Drawn0.refl _ | apply Drawn0.step)⟩
   case round =>
    clear H'
    try clear c2
    try clear c2b0
    try clear p2
    try clear c3
    try clear c3b0
    try clear c4
    try clear c4b0
    try clear p4
    try clear q4
    try clear hx4
    try clear c5
    try clear c5b0
    try clear hx476_0
    try clear hx476_1
    try clear hx476_2
    try clear p2
    try clear p476
    try clear q476
    obtain ⟨x5_3, rfl, HA, HK3, ⟨m3, rfl⟩⟩ := hrel
    cases gk with
    | zero => exact absurd HA.out (by simp [hallmootlaw13_once.l2])
    | succ k3 => {
    have H := HA.out
    clear HA
    simp only [hallmootlaw13_once.l2] at H
    by_cases c6 : x5_3 < x4_2
    {
    rw [if_pos c6] at H
    have c6b0 : decide (x5_3 < x4_2) = true := decide_eq_true c6
    clear c6
    by_cases c7 : 0 ≤ x3_1
    {
    rw [if_pos c7] at H
    have c7b0 : decide (0 ≤ x3_1) = true := decide_eq_true c7
    clear c7
    by_cases c8 : x3_1 < (l0.length : Int)
    {
    rw [if_pos c8] at H
    have c8b0 : decide (x3_1 < (l0.length : Int)) = true := decide_eq_true c8
    clear c8
    by_cases c9 : 0 ≤ x5_3
    {
    rw [if_pos c9] at H
    have c9b0 : decide (0 ≤ x5_3) = true := decide_eq_true c9
    clear c9
    by_cases c10 : x5_3 < (((rd_T62 l0 x3_1).f1).length : Int)
    {
    rw [if_pos c10] at H
    have c10b0 : decide (x5_3 < (((rd_T62 l0 x3_1).f1).length : Int)) = true := decide_eq_true c10
    clear c10
    by_cases c11 : 0 ≤ x4_2
    {
    rw [if_pos c11] at H
    have c11b0 : decide (0 ≤ x4_2) = true := decide_eq_true c11
    clear c11
    by_cases c12 : x4_2 < (((rd_T62 l0 x3_1).f1).length : Int)
    {
    rw [if_pos c12] at H
    have c12b0 : decide (x4_2 < (((rd_T62 l0 x3_1).f1).length : Int)) = true := decide_eq_true c12
    clear c12
    by_cases c13 : ((rd_T33 ((rd_T62 l0 x3_1).f1) x5_3).f0) = ((rd_T33 ((rd_T62 l0 x3_1).f1) x4_2).f0)
    {
    rw [if_pos c13] at H
    have c13b0 : (((rd_T33 ((rd_T62 l0 x3_1).f1) x5_3).f0) == ((rd_T33 ((rd_T62 l0 x3_1).f1) x4_2).f0)) = true := beq_iff_eq.mpr c13
    have c13b1 : (((rd_T33 ((rd_T62 l0 x3_1).f1) x5_3).f0) != ((rd_T33 ((rd_T62 l0 x3_1).f1) x4_2).f0)) = false := bne_eq_false_iff_eq.mpr c13
    clear c13
    obtain rfl := Option.some.inj H
    have p477 : 0 ≤ (x3_1 : Int) := dd
    have q477 : x3_1 < (l0.length : Int) := dd
    obtain ⟨ad477, A477_0, c477_0, A477_1, c477_1, A477_2, c477_2, e477, hx477_0, hx477_1, hx477_2, hl477_0, hi477_0, hl477_1, hi477_1, hl477_2, hi477_2⟩ := at_T62 HR0.out x3_1 p477 q477
    obtain rfl : ad476 = ad477 := (by injection e477)
    have HR477_0 := aS hi477_0
    have HC477_0 := aS hl477_0
    clear hi477_0 hl477_0
    have HR477_1 := aS hi477_1
    have HC477_1 := aS hl477_1
    clear hi477_1 hl477_1
    have HR477_2 := aS hi477_2
    have HC477_2 := aS hl477_2
    clear hi477_2 hl477_2
    replace p477 := eq_true p477
    replace q477 := eq_true q477
    have p478 : 0 ≤ (x5_3 : Int) := dd
    have q478 : x5_3 < (((rd_T62 l0 x3_1).f1).length : Int) := dd
    obtain ⟨ad478, e478, hx478_0, hx478_1⟩ := at_T33 HR477_1.out x5_3 p478 q478
    cases e478
    replace p478 := eq_true p478
    replace q478 := eq_true q478
    have p479 : 0 ≤ (x3_1 : Int) := dd
    have q479 : x3_1 < (l0.length : Int) := dd
    obtain ⟨ad479, A479_0, c479_0, A479_1, c479_1, A479_2, c479_2, e479, hx479_0, hx479_1, hx479_2, hl479_0, hi479_0, hl479_1, hi479_1, hl479_2, hi479_2⟩ := at_T62 HR0.out x3_1 p479 q479
    obtain rfl : ad476 = ad479 := (by injection e479)
    have HR479_0 := aS hi479_0
    have HC479_0 := aS hl479_0
    clear hi479_0 hl479_0
    have HR479_1 := aS hi479_1
    have HC479_1 := aS hl479_1
    clear hi479_1 hl479_1
    have HR479_2 := aS hi479_2
    have HC479_2 := aS hl479_2
    clear hi479_2 hl479_2
    replace p479 := eq_true p479
    replace q479 := eq_true q479
    have ea_ := Option.some.inj (hx477_0.symm.trans hx479_0)
    injection ea_ with ea_ en_ ec_
    subst ea_
    subst ec_
    clear en_
    have ea_ := Option.some.inj (hx477_1.symm.trans hx479_1)
    injection ea_ with ea_ en_ ec_
    subst ea_
    subst ec_
    clear en_
    have ea_ := Option.some.inj (hx477_2.symm.trans hx479_2)
    injection ea_ with ea_ en_ ec_
    subst ea_
    subst ec_
    clear en_
    have p480 : 0 ≤ (x4_2 : Int) := dd
    have q480 : x4_2 < (((rd_T62 l0 x3_1).f1).length : Int) := dd
    obtain ⟨ad480, e480, hx480_0, hx480_1⟩ := at_T33 HR479_1.out x4_2 p480 q480
    cases e480
    replace p480 := eq_true p480
    replace q480 := eq_true q480
    go_wp2
    repeat (go_quiet (fail); try go_wp2)
    go_ret
    exact ⟨by first | rfl | (simp; done) | (simp [*]; done), by repeat (first | exact Drawn0.refl _ | apply Drawn0.step)⟩ }
    {
    rw [if_neg c13] at H
    have c13b0 : (((rd_T33 ((rd_T62 l0 x3_1).f1) x5_3).f0) == ((rd_T33 ((rd_T62 l0 x3_1).f1) x4_2).f0)) = false := beq_eq_false_iff_ne.mpr c13
    have c13b1 : (((rd_T33 ((rd_T62 l0 x3_1).f1) x5_3).f0) != ((rd_T33 ((rd_T62 l0 x3_1).f1) x4_2).f0)) = true := bne_iff_ne.mpr c13
    have H' := aS H
    clear H
    have p477 : 0 ≤ (x3_1 : Int) := dd
    have q477 : x3_1 < (l0.length : Int) := dd
    obtain ⟨ad477, A477_0, c477_0, A477_1, c477_1, A477_2, c477_2, e477, hx477_0, hx477_1, hx477_2, hl477_0, hi477_0, hl477_1, hi477_1, hl477_2, hi477_2⟩ := at_T62 HR0.out x3_1 p477 q477
    obtain rfl : ad476 = ad477 := (by injection e477)
    have HR477_0 := aS hi477_0
    have HC477_0 := aS hl477_0
    clear hi477_0 hl477_0
    have HR477_1 := aS hi477_1
    have HC477_1 := aS hl477_1
    clear hi477_1 hl477_1
    have HR477_2 := aS hi477_2
    have HC477_2 := aS hl477_2
    clear hi477_2 hl477_2
    replace p477 := eq_true p477
    replace q477 := eq_true q477
    have p478 : 0 ≤ (x5_3 : Int) := dd
    have q478 : x5_3 < (((rd_T62 l0 x3_1).f1).length : Int) := dd
    obtain ⟨ad478, e478, hx478_0, hx478_1⟩ := at_T33 HR477_1.out x5_3 p478 q478
    cases e478
    replace p478 := eq_true p478
    replace q478 := eq_true q478
    have p479 : 0 ≤ (x3_1 : Int) := dd
    have q479 : x3_1 < (l0.length : Int) := dd
    obtain ⟨ad479, A479_0, c479_0, A479_1, c479_1, A479_2, c479_2, e479, hx479_0, hx479_1, hx479_2, hl479_0, hi479_0, hl479_1, hi479_1, hl479_2, hi479_2⟩ := at_T62 HR0.out x3_1 p479 q479
    obtain rfl : ad476 = ad479 := (by injection e479)
    have HR479_0 := aS hi479_0
    have HC479_0 := aS hl479_0
    clear hi479_0 hl479_0
    have HR479_1 := aS hi479_1
    have HC479_1 := aS hl479_1
    clear hi479_1 hl479_1
    have HR479_2 := aS hi479_2
    have HC479_2 := aS hl479_2
    clear hi479_2 hl479_2
    replace p479 := eq_true p479
    replace q479 := eq_true q479
    have ea_ := Option.some.inj (hx477_0.symm.trans hx479_0)
    injection ea_ with ea_ en_ ec_
    subst ea_
    subst ec_
    clear en_
    have ea_ := Option.some.inj (hx477_1.symm.trans hx479_1)
    injection ea_ with ea_ en_ ec_
    subst ea_
    subst ec_
    clear en_
    have ea_ := Option.some.inj (hx477_2.symm.trans hx479_2)
    injection ea_ with ea_ en_ ec_
    subst ea_
    subst ec_
    clear en_
    have p480 : 0 ≤ (x4_2 : Int) := dd
    have q480 : x4_2 < (((rd_T62 l0 x3_1).f1).length : Int) := dd
    obtain ⟨ad480, e480, hx480_0, hx480_1⟩ := at_T33 HR479_1.out x4_2 p480 q480
    cases e480
    replace p480 := eq_true p480
    replace q480 := eq_true q480
    go_wp2
    repeat (go_quiet (fail); try go_wp2)
    go_roundg k3
    case measure => have := HK1.out; have := HK2.out; have := HK3.out; omega
    case rel => exact ⟨(wrap64 (x5_3 + 1)), (by first | rfl | (simp; done) | (simp [*]; done)), H', ⟨by have := HK1.out; have := HK2.out; have := HK3.out; omega⟩, by repeat (first | exact Drawn0.refl _ | apply Drawn0.step)⟩ } }
    {
    rw [if_neg c12] at H
    exact absurd H (by simp) } }
    {
    rw [if_neg c11] at H
    exact absurd H (by simp) } }
    {
    rw [if_neg c10] at H
    exact absurd H (by simp) } }
    {
    rw [if_neg c9] at H
    exact absurd H (by simp) } }
    {
    rw [if_neg c8] at H
    exact absurd H (by simp) } }
    {
    rw [if_neg c7] at H
    exact absurd H (by simp) } }
    {
    rw [if_neg c6] at H
    have c6b0 : decide (x5_3 < x4_2) = false := decide_eq_false c6
    clear c6
    have H' := aS H
    clear H
    go_wp2
    repeat (go_quiet (fail); try go_wp2)
    go_roundg k3
    case measure => have := HK1.out; have := HK2.out; have := HK3.out; omega
    case rel => exact ⟨(wrap64 (x4_2 + 1)), (by first | rfl | (simp; done) | (simp [*]; done)), H', ⟨by have := HK1.out; have := HK2.out; have := HK3.out; omega⟩, by repeat (first | exact Drawn0.refl _ | apply Drawn0.step)⟩ } } }
   {
   rw [if_neg c5] at H
   have c5b0 : decide (x4_2 < (((rd_T62 l0 x3_1).f1).length : Int)) = false := decide_eq_false c5
   clear c5
   have H' := aS H
   clear H
   have p476 : 0 ≤ (x3_1 : Int) := dd
   have q476 : x3_1 < (l0.length : Int) := dd
   obtain ⟨ad476, A476_0, c476_0, A476_1, c476_1, A476_2, c476_2, e476, hx476_0, hx476_1, hx476_2, hl476_0, hi476_0, hl476_1, hi476_1, hl476_2, hi476_2⟩ := at_T62 HR0.out x3_1 p476 q476
   cases e476
   have HR476_0 := aS hi476_0
   have HC476_0 := aS hl476_0
   clear hi476_0 hl476_0
   have HR476_1 := aS hi476_1
   have HC476_1 := aS hl476_1
   clear hi476_1 hl476_1
   have HR476_2 := aS hi476_2
   have HC476_2 := aS hl476_2
   clear hi476_2 hl476_2
   replace p476 := eq_true p476
   replace q476 := eq_true q476
   go_wp2
   repeat (go_quiet (fail); try go_wp2)
   go_roundg k2
   case measure => have := HK1.out; have := HK2.out; omega
   case rel => exact ⟨(wrap64 (x3_1 + 1)), (by first | rfl | (simp; done) | (simp [*]; done)), H', ⟨by have := HK1.out; have := HK2.out; omega⟩, by repeat (first | exact Drawn0.refl _ | apply Drawn0.step)⟩ } }
   {
   rw [if_neg c4] at H
   exact absurd H (by simp) } }
   {
   rw [if_neg c3] at H
   exact absurd H (by simp) } } }
  {
  rw [if_neg c2] at H
  have c2b0 : decide (x3_1 < (l0.length : Int)) = false := decide_eq_false c2
  clear c2
  obtain rfl := Option.some.inj H
  go_wp2
  repeat (go_quiet (fail); try go_wp2)
  go_ret
  exact ⟨by first | rfl | (simp; done) | (simp [*]; done), by repeat (first | exact Drawn0.refl _ | apply Drawn0.step)⟩ } }

end Go.Proofs.Ytfojpobblebigaa.P
namespace Go.Proofs.Ytfojpobblebigaa.P
open Go.RowKit Go.Proofs.YtfojpobblebigaaW.PrintWords Go.Proofs.YtfojpobblebigaaW.PrintLast Go.Proofs.YtfojpobblebigaaW.PrintMore
attribute [local go_sem] max2_int min2_int max_two min_two max_three min_three max_four min_four   -- for this text's walks alone
set_option linter.unusedVariables false
set_option linter.unusedSimpArgs false

/-! ### hallmootlaw13_has: function 33 -/
def hallmootlaw13_has.l0 : Nat → List (S30) → Int → Int → Option (Bool)
  | 0, _, _, _ => none
  | k + 1, x0, x1, x5 => if x5 < (x0.length : Int) then (if 0 ≤ x5 then (if ((rd_T30 x0 x5).f0) = x1 then (some true) else (hallmootlaw13_has.l0 k x0 x1 (wrap64 (x5 + 1)))) else (none)) else (some false)
def hallmootlaw13_has.f (k : Nat) (l0 : List (S30)) (a1 : Int) : Option (Bool) := hallmootlaw13_has.l0 k l0 a1 0
theorem hallmootlaw13_has.mono_l : ∀ k, (∀ y0 y1 y2, LeO (hallmootlaw13_has.l0 k y0 y1 y2) (hallmootlaw13_has.l0 (k + 1) y0 y1 y2))
  | 0 => fun _ _ _ r h => by simp [hallmootlaw13_has.l0] at h
  | k + 1 => by
    have ih0 := hallmootlaw13_has.mono_l k
    · intro y0 y1 y2
      unfold hallmootlaw13_has.l0
      repeat' first
      | (with_reducible exact ih0 _ _ _)
      | (with_reducible exact LeO.refl _)
      | (with_reducible exact LeO.none _)
      | (with_reducible refine LeO.ite ?_ ?_)
      | (with_reducible refine LeO.bind ?_ (fun _ => ?_))
      | exact ih0 _ _ _
      | exact LeO.none _
      | refine LeO.ite ?_ ?_
      | refine LeO.bind ?_ (fun _ => ?_)
theorem hallmootlaw13_has.mono : ∀ a0 a1 k, LeO (hallmootlaw13_has.f k a0 a1) (hallmootlaw13_has.f (k + 1) a0 a1) := by
 intro a0 a1 k
 have ih0 := hallmootlaw13_has.mono_l k
 unfold hallmootlaw13_has.f
 repeat' first | (with_reducible exact ih0 _ _ _) | (with_reducible exact LeO.refl _) | (with_reducible exact LeO.none _) | (with_reducible refine LeO.ite ?_ ?_) | (with_reducible refine LeO.bind ?_ (fun _ => ?_)) | exact ih0 _ _ _ | exact LeO.none _ | refine LeO.ite ?_ ?_ | refine LeO.bind ?_ (fun _ => ?_)
set_option maxHeartbeats 8000000 in
set_option maxRecDepth 100000 in
theorem hallmootlaw13_has.calls (k : Nat) (A0 : Option Addr) (c0 : Nat) (l0 : List (S30)) (a1 : Int) (r : Bool) (w : World) (hr0 : Kd.C k30 w A0 l0.length l0) (hc0 : l0.length ≤ c0) (h : hallmootlaw13_has.f k l0 a1 = some r) : Calls Try.prog 33 #[.slice A0 l0.length c0, .int .i64 a1] w fun e w' => e = .returned (.bool r) ∧ Drawn0 w w' := by
 have HR0 := aS hr0
 have HC0 := aS hc0
 clear hr0 hc0
 have H : (hallmootlaw13_has.l0 k l0 a1 0) = some r := h
 clear h
 have H' := aS H
 clear H
 go_enter Try.func33, Try.ntmps33
 go_wp2
 go_loopg [5] k (fun kq v5 w' => ∃ (x5_1 : Int), v5 = .int .i64 x5_1 ∧ Aside0 (hallmootlaw13_has.l0 kq l0 a1 x5_1 = some r) ∧ Aside0 (kq ≤ k) ∧ Drawn0 w w')
 case atStart => exact ⟨(0), (by first | rfl | (simp; done) | (simp [*]; done)), H', ⟨Nat.le_refl _⟩, by repeat (first | exact Drawn0.refl _ | apply Drawn0.step)⟩
 case round =>
  clear H'
  try clear p2
  obtain ⟨x5_1, rfl, HA, HK1, ⟨m1, rfl⟩⟩ := hrel
  cases gk with
  | zero => exact absurd HA.out (by simp [hallmootlaw13_has.l0])
  | succ k1 => {
  have H := HA.out
  clear HA
  simp only [hallmootlaw13_has.l0] at H
  by_cases c3 : x5_1 < (l0.length : Int)
  {
  rw [if_pos c3] at H
  have c3b0 : decide (x5_1 < (l0.length : Int)) = true := decide_eq_true c3
  clear c3
  by_cases c4 : 0 ≤ x5_1
  {
  rw [if_pos c4] at H
  have c4b0 : decide (0 ≤ x5_1) = true := decide_eq_true c4
  clear c4
  by_cases c5 : ((rd_T30 l0 x5_1).f0) = a1
  {
  rw [if_pos c5] at H
  have c5b0 : (((rd_T30 l0 x5_1).f0) == a1) = true := beq_iff_eq.mpr c5
  have c5b1 : (((rd_T30 l0 x5_1).f0) != a1) = false := bne_eq_false_iff_eq.mpr c5
  clear c5
  obtain rfl := Option.some.inj H
  have p514 : 0 ≤ (x5_1 : Int) := dd
  have q514 : x5_1 < (l0.length : Int) := dd
  obtain ⟨ad514, e514, hx514_0, hx514_1, hx514_2⟩ := at_T30 HR0.out x5_1 p514 q514
  cases e514
  replace p514 := eq_true p514
  replace q514 := eq_true q514
  go_wp2
  go_ret
  exact ⟨by first | rfl | (simp; done) | (simp [*]; done), by repeat (first | exact Drawn0.refl _ | apply Drawn0.step)⟩ }
  {
  rw [if_neg c5] at H
  have c5b0 : (((rd_T30 l0 x5_1).f0) == a1) = false := beq_eq_false_iff_ne.mpr c5
  have c5b1 : (((rd_T30 l0 x5_1).f0) != a1) = true := bne_iff_ne.mpr c5
  have H' := aS H
  clear H
  have p514 : 0 ≤ (x5_1 : Int) := dd
  have q514 : x5_1 < (l0.length : Int) := dd
  obtain ⟨ad514, e514, hx514_0, hx514_1, hx514_2⟩ := at_T30 HR0.out x5_1 p514 q514
  cases e514
  replace p514 := eq_true p514
  replace q514 := eq_true q514
  go_wp2
  go_roundg k1
  case measure => have := HK1.out; omega
  case rel => exact ⟨(wrap64 (x5_1 + 1)), (by first | rfl | (simp; done) | (simp [*]; done)), H', ⟨by have := HK1.out; omega⟩, by repeat (first | exact Drawn0.refl _ | apply Drawn0.step)⟩ } }
  {
  rw [if_neg c4] at H
  exact absurd H (by simp) } }
  {
  rw [if_neg c3] at H
  have c3b0 : decide (x5_1 < (l0.length : Int)) = false := decide_eq_false c3
  clear c3
  obtain rfl := Option.some.inj H
  go_wp2
  go_ret
  exact ⟨by first | rfl | (simp; done) | (simp [*]; done), by repeat (first | exact Drawn0.refl _ | apply Drawn0.step)⟩ } }

end Go.Proofs.Ytfojpobblebigaa.P
