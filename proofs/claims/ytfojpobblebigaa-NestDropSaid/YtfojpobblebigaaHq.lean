/- nest.Find: function 17. -/
import Derived.Test.YtfojpobblebigaaHp
namespace Go.Proofs.Ytfojpobblebigaa.P
open Go.RowKit Go.Shelf Go.Proofs.YtfojpobblebigaaW.PrintWords Go.Proofs.YtfojpobblebigaaW.PrintLast Go.Proofs.YtfojpobblebigaaW.PrintMore
attribute [local go_sem] Oper.semAt_some
set_option linter.unusedVariables false
set_option linter.unusedSimpArgs false

set_option maxRecDepth 100000 in
set_option maxHeartbeats 4000000 in
/-- The closure, at no level. -/
theorem back0 (F : Fence) (f : Nat) (h62 : F.fn 62) (hro : F.round = none) (l Bs : Nat) (A : Option Addr) (cap : Nat) (J : List (Fin 0) → World → Prop) (W : World) (hBs : W.cell? ⟨Bs, 0, none⟩ = some (.slice A 0 cap)) (h0 : J [] W) :
    CallsIn F f Try.prog 62 #[.func (.yield l) #[] #[], .pointer (some ⟨Bs, 0, none⟩)] W fun e W' => (∃ v, e = .returned v) ∧ J [] W' := by
  refine callsIn_of_wp Try.func62 rfl h62 ?_ hro
  simp only [Try.ntmps62, List.size_toArray, List.length_cons, List.length_nil, Nat.reduceAdd, Nat.reduceSub, Array.replicate_succ, Array.replicate_zero, List.push_toArray, List.append_toArray, List.nil_append, List.cons_append]
  gi_wp2
  gi_loopw [3] (fun i wr => i = .int .i64 (-1) ∧ J [] wr) (fun _ _ => 0)
  case atStart => exact ⟨rfl, h0⟩
  case round =>
    obtain ⟨rfl, hJs⟩ := hrel
    gi_wp2
    go_end0
    exact ⟨⟨_, rfl⟩, hJs⟩

/-- What a world bears of a slice of levels: none, or their cells. -/
def LAt (n₀ : Nat) (W : World) (A : Option Addr) (n : Nat) (D : Nat → Value × Value × Value) : Prop := n = 0 ∨ ∃ ad, A = some ad ∧ LRow n₀ W ad n D
theorem LAt.below {n₀ : Nat} {W W' : World} {A : Option Addr} {n : Nat} {D : Nat → Value × Value × Value} (h : Below n₀ W W') : LAt n₀ W A n D → LAt n₀ W' A n D
  | .inl e => .inl e
  | .inr ⟨ad, e, hl⟩ => .inr ⟨ad, e, hl.below h⟩

theorem back_stops (F : Fence) (f : Nat) (h62 : F.fn 62) (hro : F.round = none) (hn : 1 ≤ f) (Bs n cap : Nat) (A : Option Addr) (D : Nat → Value × Value × Value) (hmax : n ≤ 9223372036854775807) (w : World) (hBw : Bs < w.heap.size) (hc : w.cell? ⟨Bs, 0, none⟩ = some (.slice A n cap)) (hL : LAt w.heap.size w A n D) :
    SeqStopsK F f Try.prog 62 #[.pointer (some ⟨Bs, 0, none⟩)] (fun x : Fin n => encL D x.1) (Below w.heap.size) (fun ys => ys = dn n 0) (fun pre => ∃ k, k < n ∧ pre = dn n k) n w := by
  intro l J Jx W hW _ _ hY h0
  rcases hL with rfl | ⟨ad, rfl, hL⟩
  · refine (back0 F f h62 hro l Bs A cap J W ((hW.cell (p := ⟨Bs, 0, none⟩) hBw).trans hc) h0).mono ?_
    rintro e W' ⟨he, hj⟩
    exact ⟨he, .inl ⟨_, rfl, by rw [dn_nil]; exact hj⟩⟩
  · exact back1 F f h62 hro hn l Bs w.heap.size ad n cap D hmax J Jx hY W hBw ((hW.cell (p := ⟨Bs, 0, none⟩) hBw).trans hc) (hL.below hW) h0

/-! ### nest.Find -/
def missW (l : List S62) (loc : Int) (i : Nat) : Prop := (l.getD i z62).f1.find? (fun y => y.f0 == loc) = none
def missR (l : List S62) (loc : Int) (i : Nat) : Prop := (l.getD i z62).f0.find? (fun y => y.f0 == loc) = none
def findL (l : List S62) (loc : Int) : Int × Int × Int :=
  match l.reverse.findSome? (fun x => x.f1.find? (fun y => y.f0 == loc)) with
  | some y => (y.f1, 0, 1)
  | none => match l.reverse.findSome? (fun x => x.f0.find? (fun y => y.f0 == loc)) with
    | some s => (s.f2, s.f1, 2)
    | none => (0, 0, 0)
theorem findL_wrote {l : List S62} {loc : Int} {y : S33} (h : l.reverse.findSome? (fun x => x.f1.find? (fun y => y.f0 == loc)) = some y) : findL l loc = (y.f1, 0, 1) := by
  unfold findL; rw [h]
theorem findL_read {l : List S62} {loc : Int} {s : S30} (h : l.reverse.findSome? (fun x => x.f1.find? (fun y => y.f0 == loc)) = none) (h2 : l.reverse.findSome? (fun x => x.f0.find? (fun y => y.f0 == loc)) = some s) : findL l loc = (s.f2, s.f1, 2) := by
  unfold findL; simp only [h, h2]
theorem findL_none {l : List S62} {loc : Int} (h : l.reverse.findSome? (fun x => x.f1.find? (fun y => y.f0 == loc)) = none) (h2 : l.reverse.findSome? (fun x => x.f0.find? (fun y => y.f0 == loc)) = none) : findL l loc = (0, 0, 0) := by
  unfold findL; simp only [h, h2]
theorem findSome_rev {α β : Type} (f : α → Option β) (l : List α) (d : α) (k : Nat) (hk : k < l.length) (b : β) (h : f (l.getD k d) = some b) (hm : ∀ j, k < j → j < l.length → f (l.getD j d) = none) : l.reverse.findSome? f = some b := by
  have e : l = l.take k ++ l[k] :: l.drop (k + 1) := by rw [← List.drop_eq_getElem_cons hk, List.take_append_drop]
  have hg : l.getD k d = l[k] := by rw [List.getD_eq_getElem?_getD, List.getElem?_eq_getElem hk]; rfl
  rw [e, List.reverse_append, List.reverse_cons, List.append_assoc, List.findSome?_append]
  have hn : (l.drop (k + 1)).reverse.findSome? f = none := by
    rw [List.findSome?_eq_none_iff]
    intro x hx
    rw [List.mem_reverse] at hx
    obtain ⟨j, hj, rfl⟩ := List.getElem_of_mem hx
    rw [List.length_drop] at hj
    have := hm (k + 1 + j) (by omega) (by omega)
    rw [List.getD_eq_getElem?_getD, List.getElem?_eq_getElem (by omega)] at this
    simpa using this
  rw [hn, Option.none_or, List.singleton_append, List.findSome?_cons, ← hg, h]
theorem findSome_rev_none {α β : Type} (f : α → Option β) (l : List α) (d : α) (hm : ∀ j, j < l.length → f (l.getD j d) = none) : l.reverse.findSome? f = none := by
  rw [List.findSome?_eq_none_iff]
  intro x hx
  rw [List.mem_reverse] at hx
  obtain ⟨j, hj, rfl⟩ := List.getElem_of_mem hx
  have := hm j hj
  rwa [List.getD_eq_getElem?_getD, List.getElem?_eq_getElem hj] at this
theorem mem_dn {n k : Nat} {x : Fin n} : x ∈ dn n k ↔ k ≤ x.1 := by
  unfold dn
  rw [List.mem_reverse, List.mem_iff_getElem]
  constructor
  · rintro ⟨i, hi, rfl⟩
    simp
  · intro h
    refine ⟨x.1 - k, by simp; omega, ?_⟩
    apply Fin.ext
    simp; omega

set_option maxHeartbeats 1000000 in
theorem back_in (F : Fence) (f : Nat) (h46 : F.fn 46) (hro : F.round = none) (A : Option Addr) (n c : Nat) (w : World) :
    CallsIn F f Try.prog 46 #[.slice A n c] w fun e w' => e = .returned (.func (.func 62) #[] #[.pointer (some ⟨w.heap.size, 0, none⟩)]) ∧ w' = w.alloc (.cells #[.slice A n c] 22) := by
  refine callsIn_of_wp Try.func46 rfl h46 ?_ hro
  simp only [Try.ntmps46, List.size_toArray, List.length_cons, List.length_nil, Nat.reduceAdd, Nat.reduceSub, Array.replicate_succ, Array.replicate_zero, List.push_toArray, List.append_toArray, List.nil_append, List.cons_append]
  gi_wp2
  go_ret
  exact ⟨rfl, rfl⟩

theorem keepsFrom_below {B : Nat} {W W' : World} (h : Below W.heap.size W W') : KeepsFrom B W W' :=
  ⟨h.size, fun k o _ hk _ => (h.block k (Array.getElem?_eq_some_iff.1 hk).1).trans hk⟩
theorem boxed_below {W W' : World} {B : Nat} {t : TypeId} {v : Value} (hb : Boxed W B t v) (h : Below W.heap.size W W') : Boxed W' B t v := (h.block B hb.lt).trans hb

/-- What the levels' rows bear, wherever what lay at the begin lies on. -/
structure Lv (w : World) (A : Option Addr) (l : List S62) (D : Nat → Value × Value × Value) : Prop where
  at_ : ∀ i, i < l.length → ∃ ad A0 c0 A1 c1, A = some ad ∧ ad.block < w.heap.size ∧ (D i).1 = .slice A0 (l.getD i z62).f0.length c0 ∧ (D i).2.1 = .slice A1 (l.getD i z62).f1.length c1 ∧ (∃ A2 c2, (D i).2.2 = .slice A2 (l.getD i z62).f2.length c2) ∧
    w.cell? (ad.add (i * 3)) = some (D i).1 ∧ w.cell? ⟨(ad.add (i * 3)).block, (ad.add (i * 3)).off + 1, none⟩ = some (D i).2.1 ∧ w.cell? ⟨(ad.add (i * 3)).block, (ad.add (i * 3)).off + 2, none⟩ = some (D i).2.2 ∧
    Kd.C k30 w A0 (l.getD i z62).f0.length (l.getD i z62).f0 ∧ Kd.C k33 w A1 (l.getD i z62).f1.length (l.getD i z62).f1
theorem cell_lt {w : World} {p : Addr} {v : Value} (h : w.cell? p = some v) : p.block < w.heap.size := by
  unfold World.cell? at h
  by_cases hlt : p.block < w.heap.size
  · exact hlt
  · simp [hlt] at h
theorem lv_of {w : World} {A : Option Addr} {l : List S62} (h : Kd.C k62 w A l.length l) : ∃ D, Lv w A l D := by
  have hF := Kd.C_F k62_heap h
  have : ∀ i : Nat, ∃ D : Value × Value × Value, i < l.length → ∃ ad A0 c0 A1 c1, A = some ad ∧ ad.block < w.heap.size ∧ D.1 = .slice A0 (l.getD i z62).f0.length c0 ∧ D.2.1 = .slice A1 (l.getD i z62).f1.length c1 ∧ (∃ A2 c2, D.2.2 = .slice A2 (l.getD i z62).f2.length c2) ∧
    w.cell? (ad.add (i * 3)) = some D.1 ∧ w.cell? ⟨(ad.add (i * 3)).block, (ad.add (i * 3)).off + 1, none⟩ = some D.2.1 ∧ w.cell? ⟨(ad.add (i * 3)).block, (ad.add (i * 3)).off + 2, none⟩ = some D.2.2 ∧
    Kd.C k30 w A0 (l.getD i z62).f0.length (l.getD i z62).f0 ∧ Kd.C k33 w A1 (l.getD i z62).f1.length (l.getD i z62).f1 := by
    intro i
    by_cases hi : i < l.length
    · obtain ⟨ad, A0, c0, A1, c1, A2, c2, e, e0, e1, e2, _, f0, _, f1, _, _⟩ := F62_at hF i hi
      refine ⟨(_, _, _), fun _ => ⟨ad, A0, c0, A1, c1, e, ?_, rfl, rfl, ⟨A2, c2, rfl⟩, e0, e1, e2, Kd.F_now f0, Kd.F_now f1⟩⟩
      have := cell_lt e0
      rwa [add_block] at this
    · exact ⟨(undef, undef, undef), fun h => absurd h hi⟩
  obtain ⟨D, hD⟩ := Classical.axiomOfChoice this
  exact ⟨D, ⟨hD⟩⟩
theorem Lv.lat {w : World} {A : Option Addr} {l : List S62} {D : Nat → Value × Value × Value} (h : Lv w A l D) : LAt w.heap.size w A l.length D := by
  by_cases hn : l.length = 0
  · exact .inl hn
  · obtain ⟨ad, A0, c0, A1, c1, e, hb, _, _, _, _, _, _, _, _⟩ := h.at_ 0 (by omega)
    refine .inr ⟨ad, e, hb, fun i hi => ?_⟩
    obtain ⟨ad', A0', c0', A1', c1', e', _, _, _, _, q0, q1, q2, _, _⟩ := h.at_ i hi
    rw [e] at e'
    cases e'
    exact ⟨q0, q1, q2⟩
theorem LAt.up {n₀ n₁ : Nat} {w : World} {A : Option Addr} {n : Nat} {D : Nat → Value × Value × Value} (hn : n₀ ≤ n₁) : LAt n₀ w A n D → LAt n₁ w A n D
  | .inl e => .inl e
  | .inr ⟨ad, e, hb, hl⟩ => .inr ⟨ad, e, Nat.lt_of_lt_of_le hb hn, hl⟩

theorem find_hit {α : Type} (g : α → Int) (zs : List α) (d : α) (loc : Int) (k : Nat) (hk : k < zs.length) (hm : ∀ j, j < k → g (zs.getD j d) ≠ loc) (h : g (zs.getD k d) = loc) : zs.find? (fun y => g y == loc) = some (zs.getD k d) := by
  have hg : zs.getD k d = zs[k] := by rw [List.getD_eq_getElem?_getD, List.getElem?_eq_getElem hk]; rfl
  rw [List.find?_eq_some_iff_getElem]
  refine ⟨by simpa using h, k, hk, hg.symm, fun j hj => ?_⟩
  have := hm j hj
  rw [List.getD_eq_getElem?_getD, List.getElem?_eq_getElem (by omega)] at this
  simpa using this
theorem find_miss {α : Type} (g : α → Int) (zs : List α) (d : α) (loc : Int) (hm : ∀ j, j < zs.length → g (zs.getD j d) ≠ loc) : zs.find? (fun y => g y == loc) = none := by
  rw [List.find?_eq_none]
  intro x hx
  obtain ⟨j, hj, rfl⟩ := List.getElem_of_mem hx
  have := hm j hj
  rw [List.getD_eq_getElem?_getD, List.getElem?_eq_getElem hj] at this
  simpa using this
theorem blk_own {X Y : World} {row : Option Nat} {g B t : Nat} {cells : Array Value} (h : X.heap[g]? = some (.cells cells t (0, 0))) (hg : X.grownBy Y row) (hr : ∀ r, row = some r → B ≤ r ∧ ∃ o : Obj, X.heap[r]? = some o ∧ o.isCells = false) : Y.heap[g]? = some (.cells cells t (0, 0)) :=
  (hg.block g (Array.getElem?_eq_some_iff.1 h).1 (fun e => by obtain ⟨_, o, ho, hc⟩ := hr g e.symm; rw [h] at ho; cases ho; cases hc)).trans h
/-- What lies behind a hit among the writes. -/
def Hit1 (l : List S62) (loc : Int) (w : World) (c : Code) (pre : List (Fin l.length)) (W : World) : Prop :=
  (((c = .ret ∧ (∃ (p : List (Fin l.length)) (x : Fin l.length), pre = p ++ [x] ∧ (∀ z ∈ p, missW l loc z.1) ∧ ∃ y, (l.getD x.1 z62).f1.find? (fun y => y.f0 == loc) = some y ∧ Boxed W (w.heap.size + 1) 3 (.int .i64 y.f1))) ∧ Boxed W (w.heap.size + 2) 3 (.int .i64 0)) ∧ Boxed W (w.heap.size + 3) 3 (.int .i64 1)) ∧ Below w.heap.size w W
def Hit2 (l : List S62) (loc : Int) (w : World) (D1 : Nat) (c : Code) (pre : List (Fin l.length)) (W : World) : Prop :=
  ((c = .ret ∧ (∃ (p : List (Fin l.length)) (x : Fin l.length), pre = p ++ [x] ∧ (∀ z ∈ p, missR l loc z.1) ∧ ∃ y, (l.getD x.1 z62).f0.find? (fun y => y.f0 == loc) = some y ∧ Boxed W (w.heap.size + 1) 3 (.int .i64 y.f2) ∧ Boxed W (w.heap.size + 2) 3 (.int .i64 y.f1))) ∧ Boxed W (w.heap.size + 3) 3 (.int .i64 2)) ∧ Below w.heap.size w W ∧ W.heap[D1]? = some (.deferred (some []))
theorem hit2_own (l : List S62) (loc : Int) (w : World) (D1 : Nat) (c : Code) (B : Nat) (hB : w.heap.size ≤ B) (hD : D1 < B) : OwnFrom B (Hit2 l loc w D1 c) := by
  rintro s X Y row ⟨⟨⟨rfl, p, x, rfl, hp, y, hy, b1, b2⟩, b3⟩, hb, hd⟩ hg hr
  have h := fun r e => (hr r e).2
  exact ⟨⟨⟨rfl, p, x, rfl, hp, y, hy, boxed_own _ 3 (fun (_ : Unit) => Value.int .i64 y.f2) () X Y row b1 hg h, boxed_own _ 3 (fun (_ : Unit) => Value.int .i64 y.f1) () X Y row b2 hg h⟩, boxed_own _ 3 (fun (_ : Unit) => Value.int .i64 2) () X Y row b3 hg h⟩, ownFrom_below (β := Unit) (Nat.le_refl _) hB () X Y row hb hg hr, (hg.block D1 (Array.getElem?_eq_some_iff.1 hd).1 (fun e => by have := (hr D1 e.symm).1; omega)).trans hd⟩
theorem hit_keep {W : World} {b D1 : Nat} {u1 u2 u3 : Value} {o : Obj} (h1 : D1 ≠ b + 1) (h2 : D1 ≠ b + 2) (h3 : D1 ≠ b + 3) (h : W.heap[D1]? = some (.deferred (some []))) :
    ((((W.setCell ⟨b + 1, 0, none⟩ u1).setCell ⟨b + 2, 0, none⟩ u2).setCell ⟨b + 3, 0, none⟩ u3).alloc o).drew.heap[D1]? = some (.deferred (some [])) := by
  have e1 := (Below.heap_setCell W ⟨b + 1, 0, none⟩ u1 D1 h1).trans h
  have e2 := (Below.heap_setCell _ ⟨b + 2, 0, none⟩ u2 D1 h2).trans e1
  have e3 := (Below.heap_setCell _ ⟨b + 3, 0, none⟩ u3 D1 h3).trans e2
  exact (Below.heap_alloc _ o D1 (Array.getElem?_eq_some_iff.1 e3).1).trans e3
/-- The way out behind both loops. -/
theorem find_end {F : Fence} {f : Nat} {w V : World} {D1 D2 : Nat} {a b c : Int} {r : Value} {tmps : Array Value} (hne : D2 ≠ D1) (h1 : w.heap.size ≤ D1) (h2 : w.heap.size ≤ D2) (hK2 : V.heap[D2]? = some (.deferred (some []))) (hK1 : V.heap[D1]? = some (.deferred (some [])))
    (b1 : Boxed V (w.heap.size + 1) 3 (.int .i64 a)) (b2 : Boxed V (w.heap.size + 2) 3 (.int .i64 b)) (b3 : Boxed V (w.heap.size + 3) 3 (.int .i64 c)) (hb : Below w.heap.size w V) (hr : r = .tuple #[.int .i64 a, .int .i64 b, .int .i64 c])
    (t4 : tmps[4]? = some (.pointer (some ⟨w.heap.size + 1, 0, none⟩)) := by rfl) (t5 : tmps[5]? = some (.pointer (some ⟨w.heap.size + 2, 0, none⟩)) := by rfl) (t6 : tmps[6]? = some (.pointer (some ⟨w.heap.size + 3, 0, none⟩)) := by rfl) :
    bodyPostM F f Try.prog Try.f17 (fun e W' => e = .returned r ∧ Below w.heap.size w W') .ret { tmps := tmps, defers := [{ target := .collected D2, args := #[] }, { target := .collected D1, args := #[] }] } V := by
  refine ⟨by simp, .inl ⟨_, _, rfl, run_takeDeferred hK2, ?_⟩⟩
  have hK1' : (V.putObj D2 (.deferred none)).heap[D1]? = some (.deferred (some [])) := (World.putObj_heap_other (by omega)).trans hK1
  refine ⟨by simp, .inl ⟨_, _, rfl, run_takeDeferred hK1', ?_⟩⟩
  have hc1 := cell_kept (cell_kept b1.cell (grownBy_putObj' _ D2 (.deferred none)) (fun r e => by cases e; exact ⟨_, hK2, rfl⟩)) (grownBy_putObj' _ D1 (.deferred none)) (fun r e => by cases e; exact ⟨_, hK1', rfl⟩)
  have hc2 := cell_kept (cell_kept b2.cell (grownBy_putObj' _ D2 (.deferred none)) (fun r e => by cases e; exact ⟨_, hK2, rfl⟩)) (grownBy_putObj' _ D1 (.deferred none)) (fun r e => by cases e; exact ⟨_, hK1', rfl⟩)
  have hc3 := cell_kept (cell_kept b3.cell (grownBy_putObj' _ D2 (.deferred none)) (fun r e => by cases e; exact ⟨_, hK2, rfl⟩)) (grownBy_putObj' _ D1 (.deferred none)) (fun r e => by cases e; exact ⟨_, hK1', rfl⟩)
  refine ⟨.tuple #[.int .i64 a, .int .i64 b, .int .i64 c], ?_, by rw [hr], (hb.trans (belowK_b (w := w) (Nat.le_refl _) V D2 _ _ h2 hK2 rfl rfl)).trans (belowK_b (w := w) (Nat.le_refl _) _ D1 _ _ h1 hK1' rfl rfl)⟩
  simp [results, Try.f17, go_sem, t4, t5, t6, hc1, hc2, hc3]
theorem hit1_own (l : List S62) (loc : Int) (w : World) (c : Code) (B : Nat) (hB : w.heap.size ≤ B) : OwnFrom B (Hit1 l loc w c) := by
  rintro s X Y row ⟨⟨⟨⟨rfl, p, x, rfl, hp, y, hy, b1⟩, b2⟩, b3⟩, hb⟩ hg hr
  have h := fun r e => (hr r e).2
  exact ⟨⟨⟨⟨rfl, p, x, rfl, hp, y, hy, boxed_own _ 3 (fun (_ : Unit) => Value.int .i64 y.f1) () X Y row b1 hg h⟩, boxed_own _ 3 (fun (_ : Unit) => Value.int .i64 0) () X Y row b2 hg h⟩, boxed_own _ 3 (fun (_ : Unit) => Value.int .i64 1) () X Y row b3 hg h⟩, ownFrom_below (β := Unit) (Nat.le_refl _) hB () X Y row hb hg hr⟩

set_option maxRecDepth 100000 in
set_option maxHeartbeats 16000000 in
theorem find_in (F : Fence) (f : Nat) (h17 : F.fn 17) (h46 : F.fn 46) (h62 : F.fn 62) (hro : F.round = none) (hn : 6 ≤ f) (A : Option Addr) (c : Nat) (l : List S62) (loc : Int) (w : World) (hr : Kd.C k62 w A l.length l) :
    CallsIn F f Try.prog 17 #[.slice A l.length c, .int .i64 loc] w fun e W' => e = .returned (.tuple #[.int .i64 (findL l loc).1, .int .i64 (findL l loc).2.1, .int .i64 (findL l loc).2.2]) ∧ Below w.heap.size w W' := by
  have h1 : 1 ≤ f := by omega
  have hmax : l.length ≤ 9223372036854775807 := hr.2.1
  obtain ⟨D, hD⟩ := lv_of hr
  have HD := Aside0.mk hD
  clear hr hD
  refine callsIn_of_wp_marks Try.func17 rfl h17 ?_ hro
  simp only [Try.ntmps17, List.size_toArray, List.length_cons, List.length_nil, Nat.reduceAdd, Nat.reduceSub, Array.replicate_succ, Array.replicate_zero, List.push_toArray, List.append_toArray, List.nil_append, List.cons_append]
  gi_wp2_with (gi_at_call 46; refine (back_in F (f - 1) h46 hro _ _ _ _).mono ?_; rintro e w' ⟨rfl, rfl⟩)
  obtain ⟨W0, hW0⟩ : ∃ W0, (((((w.alloc (.cells #[.int .i64 loc] 3)).alloc (.cells #[.int .i64 0] 3)).alloc (.cells #[.int .i64 0] 3)).alloc (.cells #[.int .i64 0] 3)).alloc (.cells #[.slice A l.length c] 22)) = W0 := ⟨_, rfl⟩
  have hB0 : Below w.heap.size w W0 := by rw [← hW0]; exact below_alloc (below_alloc (below_alloc (below_alloc (below_alloc (Below.refl _ _) _) _) _) _) _
  have hsz : W0.heap.size = w.heap.size + 5 := by rw [← hW0]; simp
  have bL : Boxed W0 w.heap.size 3 (.int .i64 loc) := by rw [← hW0]; exact ((((Boxed.new w 3 (.int .i64 loc)).alloc _).alloc _).alloc _).alloc _
  have bV : Boxed W0 (w.heap.size + 1) 3 (.int .i64 0) := by
    rw [← hW0]
    have := (((Boxed.new (w.alloc (.cells #[.int .i64 loc] 3)) 3 (.int .i64 0)).alloc (.cells #[.int .i64 0] 3)).alloc (.cells #[.int .i64 0] 3)).alloc (.cells #[.slice A l.length c] 22)
    simpa only [World.size_alloc] using this
  have bU : Boxed W0 (w.heap.size + 2) 3 (.int .i64 0) := by
    rw [← hW0]
    have := ((Boxed.new ((w.alloc (.cells #[.int .i64 loc] 3)).alloc (.cells #[.int .i64 0] 3)) 3 (.int .i64 0)).alloc (.cells #[.int .i64 0] 3)).alloc (.cells #[.slice A l.length c] 22)
    simpa only [World.size_alloc] using this
  have bH : Boxed W0 (w.heap.size + 3) 3 (.int .i64 0) := by
    rw [← hW0]
    have := (Boxed.new (((w.alloc (.cells #[.int .i64 loc] 3)).alloc (.cells #[.int .i64 0] 3)).alloc (.cells #[.int .i64 0] 3)) 3 (.int .i64 0)).alloc (.cells #[.slice A l.length c] 22)
    simpa only [World.size_alloc] using this
  have bS : Boxed W0 (w.heap.size + 4) 22 (.slice A l.length c) := by
    rw [← hW0]
    have := Boxed.new ((((w.alloc (.cells #[.int .i64 loc] 3)).alloc (.cells #[.int .i64 0] 3)).alloc (.cells #[.int .i64 0] 3)).alloc (.cells #[.int .i64 0] 3)) 22 (.slice A l.length c)
    simpa only [World.size_alloc] using this
  simp only [World.size_alloc, Nat.add_assoc, Nat.reduceAdd] at hW0 ⊢
  rw [hW0]
  clear hW0
  have hla : LAt W0.heap.size W0 A l.length D := (HD.out.lat.below hB0).up hB0.size
  refine wpIn_rangeFunc_ownH hro h1 (gf := 62) (lb := #[.pointer (some ⟨w.heap.size + 4, 0, none⟩)]) rfl h62 (enters_of Try.func62 (by kernel_rfl) rfl)
    (back_stops F (f - 1) h62 hro (by omega) (w.heap.size + 4) l.length c A D hmax W0 (by omega) bS.cell hla) belowK_t (belowK_b (Nat.le_refl _)) (Below.refl _ _) (fun _ => rfl)
    (fun pre W => (∀ x ∈ pre, missW l loc x.1) ∧ Below W0.heap.size W0 W)
    (fun c pre W => Hit1 l loc w c pre W)
    (OwnFrom.and (ownFrom_pure _ _) (ownFrom_below (Nat.le_refl _) (Nat.le_refl _)))
    (fun c => hit1_own l loc w c W0.heap.size (by omega))
    ⟨by simp, Below.refl _ _⟩
    (fun x a' W => ∃ Bx, W0.heap.size ≤ Bx ∧ W.heap[Bx]? = some (.cells #[(D x.1).1, (D x.1).2.1, (D x.1).2.2] 62 (0, 0)) ∧ a' = { tmps := #[.slice A l.length c, .int .i64 loc, undef, .pointer (some ⟨w.heap.size, 0, none⟩), .pointer (some ⟨w.heap.size + 1, 0, none⟩), .pointer (some ⟨w.heap.size + 2, 0, none⟩), .pointer (some ⟨w.heap.size + 3, 0, none⟩), undef, .pointer (some ⟨Bx, 0, none⟩), undef, undef, undef, undef, undef, undef, .slice A l.length c, .func (.func 62) #[] #[.pointer (some ⟨w.heap.size + 4, 0, none⟩)], .int .i64 (x.1 : Int), .agg #[(D x.1).1, (D x.1).2.1, (D x.1).2.2], undef, undef, undef, undef, undef, undef, undef, undef, undef, undef, undef, undef, undef, undef, undef, undef, undef, undef, undef, undef, undef, undef, undef, undef, undef, undef, undef, undef, undef, undef, undef, undef, undef, undef], defers := [] })
    (fun x a' _ X Y row hs hg hr => by obtain ⟨Bx, e1, e2, e3⟩ := hs; exact ⟨Bx, e1, blk_own e2 hg hr, e3⟩)
    ?assign ?body ?done ?stop
  case assign =>
    rintro lp pre x W K ⟨hp, hB1⟩ hK
    have hsW := hB1.size
    have HP := Aside0.mk hp
    obtain ⟨ad, A0, c0, A1, c1, -, -, d0, d1, ⟨A2, c2, d2⟩, -⟩ := HD.out.at_ x.1 x.2
    generalize (l.getD x.1 z62).f0.length = n0 at d0
    generalize (l.getD x.1 z62).f1.length = n1 at d1
    generalize (l.getD x.1 z62).f2.length = n2 at d2
    have HE := Aside0.mk (And.intro d0 (And.intro d1 d2))
    have HK := Aside0.mk hK
    unfold encL
    rw [d0, d1, d2]
    clear hp hK d0 d1 d2
    gi_wp2
    refine HK.out _ _ ((KeepsOthers.alloc _ _).from _) ((Below.refl _ W).alloc hsW _) ⟨HP.out, hB1.alloc hsW _⟩ ⟨W.heap.size, hsW, ?_⟩
    rw [HE.out.1, HE.out.2.1, HE.out.2.2]
    exact ⟨World.alloc_heap_new W _, rfl⟩
  case body =>
    rintro lp pre x a' W hlp ⟨r, hr⟩ ⟨hp, hB1⟩ ⟨Bx, hBx, bX, rfl⟩ hlt
    obtain ⟨ad, A0, c0, A1, c1, -, -, d0, d1, ⟨A2, c2, d2⟩, -, -, -, -, k1⟩ := HD.out.at_ x.1 x.2
    generalize (l.getD x.1 z62).f0.length = n0 at d0
    generalize (l.getD x.1 z62).f2.length = n2 at d2
    rw [d0, d1, d2] at bX ⊢
    have hBw : Below w.heap.size w W := hB0.trans (hB1.mono hB0.size)
    have hx1 : W.cell? ⟨Bx, 1, none⟩ = some (.slice A1 (l.getD x.1 z62).f1.length c1) := by rw [blk_cell bX]; rfl
    have HP := Aside0.mk hp
    have K1 := Aside0.mk (Kd.C_below k1 hBw)
    have HX := Aside0.mk bX
    have hm1 : (l.getD x.1 z62).f1.length ≤ 9223372036854775807 := k1.2.1
    have BL := Aside0.mk (boxed_below bL hB1)
    have BV := Aside0.mk (boxed_below bV hB1)
    have BU := Aside0.mk (boxed_below bU hB1)
    have BH := Aside0.mk (boxed_below bH hB1)
    have BW := Aside0.mk hB1
    have BWw := Aside0.mk hBw
    have SZ := Aside0.mk hsz
    clear hp d0 d1 d2 k1 bX bL bV bU bH bS hB1 hBw hB0 hr hlp hBx hlt hsz hla
    generalize hzs : (l.getD x.1 z62).f1 = zs at hx1 K1 hm1 ⊢
    have HZ := Aside0.mk hzs
    clear hzs
    gi_wp2
    gi_loopw [22] (fun i wr => ∃ kk : Nat, kk ≤ zs.length ∧ i = .int .i64 kk ∧ Aside0 (Below W.heap.size W wr) ∧ Aside0 (∀ j, j < kk → (zs.getD j z33).f0 ≠ loc)) (fun i _ => zs.length - (intOf i).toNat)
    case atStart => exact ⟨0, Nat.zero_le _, rfl, ⟨Below.refl _ _⟩, ⟨fun j hj => absurd hj (Nat.not_lt_zero _)⟩⟩
    case round =>
      obtain ⟨kk, hkk, rfl, BR, AF⟩ := hrel
      by_cases hlt : kk < zs.length
      · have hltz : (kk : Int) < (zs.length : Int) := by omega
        obtain ⟨ad, rfl, hc0, hc1⟩ := at_T33 (Kd.C_below K1.out BR.out) (kk : Int) (by omega) hltz
        rw [show rd_T33 zs (kk : Int) = zs.getD kk z33 from rfl, Int.toNat_natCast] at hc0 hc1
        generalize hy : zs.getD kk z33 = y at hc0 hc1
        have HY := Aside0.mk hy
        clear hy
        have hl := (boxed_below BL.out BR.out).cell
        have h5 : w.heap.size < wr.heap.size := by have := BW.out.size; have := BR.out.size; have := SZ.out; omega
        have h51 : w.heap.size + 1 < wr.heap.size := by have := BW.out.size; have := BR.out.size; have := SZ.out; omega
        have h52 : w.heap.size + 2 < wr.heap.size := by have := BW.out.size; have := BR.out.size; have := SZ.out; omega
        have h53 : w.heap.size + 3 < wr.heap.size := by have := BW.out.size; have := BR.out.size; have := SZ.out; omega
        by_cases hq : y.f0 = loc
        · have hv := (boxed_below BV.out BR.out).cell
          have hvf := (boxed_below BV.out BR.out).frozen
          have hu := (boxed_below BU.out BR.out).cell
          have huf := (boxed_below BU.out BR.out).frozen
          have hh := (boxed_below BH.out BR.out).cell
          have hhf := (boxed_below BH.out BR.out).frozen
          have hqb : (y.f0 == loc) = true := by simpa using hq
          have HQ := Aside0.mk hq
          clear hq
          gi_wp2
          have hle : w.heap.size ≤ wr.heap.size := by omega
          refine ⟨((((keepsFrom_below BR.out).trans ((KeepsOthers.setCell _ _ _).from _)).trans ((KeepsOthers.setCell _ _ _).from _)).trans ((KeepsOthers.setCell _ _ _).from _)).trans ((KeepsOthers.alloc _ _).from _), ⟨⟨⟨rfl, pre, x, rfl, HP.out, y, ?_, ((((boxed_below BV.out BR.out).set _).other (by omega) _).other (by omega) _).alloc _⟩, ((((boxed_below BU.out BR.out).other (by omega) _).set _).other (by omega) _).alloc _⟩, ((((boxed_below BH.out BR.out).other (by omega) _).other (by omega) _).set _).alloc _⟩, ?_⟩
          · rw [HZ.out, ← HY.out]
            exact find_hit (fun y : S33 => y.f0) zs z33 loc kk hlt AF.out (by rw [HY.out]; exact HQ.out)
          · exact ((((BWw.out.trans (BR.out.mono BWw.out.size)).setCell (p := ⟨w.heap.size + 1, 0, none⟩) (by simp) _).setCell (p := ⟨w.heap.size + 2, 0, none⟩) (by simp) _).setCell (p := ⟨w.heap.size + 3, 0, none⟩) (by simp) _).alloc (by simp; omega) _
        · have hqb : (y.f0 == loc) = false := by simpa using hq
          have HQ := Aside0.mk hq
          clear hq
          gi_wp2
          go_roundw
          case rel =>
            refine ⟨kk + 1, by omega, by go_num, ⟨BR.out.alloc BR.out.size _⟩, ⟨fun j hj => ?_⟩⟩
            by_cases e : j = kk
            · subst e; rw [HY.out]; exact HQ.out
            · exact AF.out j (by omega)
          case measure => simp [intOf]; omega
      · have hltz : ¬ (kk : Int) < (zs.length : Int) := by omega
        have hk2 : kk = zs.length := by omega
        subst hk2
        gi_wp2
        refine ⟨keepsFrom_below BR.out, BR.out.mono BW.out.size, fun z hz => ?_, BW.out.trans (BR.out.mono BW.out.size)⟩
        rcases List.mem_append.1 hz with hz | hz
        · exact HP.out z hz
        · obtain rfl : z = x := by simpa using hz
          unfold missW
          rw [HZ.out]
          exact find_miss (fun y : S33 => y.f0) zs z33 loc AF.out
  case stop =>
    rintro D1 c pre V hD hpre hx hK
    obtain ⟨⟨⟨⟨rfl, p, x, rfl, hp, y, hy, b1⟩, b2⟩, b3⟩, hb⟩ := hx
    obtain ⟨k, hk, hpk⟩ := hpre
    rw [dn_succ hk] at hpk
    obtain ⟨rfl, hxk⟩ := List.append_inj' hpk rfl
    obtain rfl : x = ⟨k, hk⟩ := by simpa using hxk
    have hfl : findL l loc = (y.f1, 0, 1) := by
      unfold findL
      rw [findSome_rev (fun x : S62 => x.f1.find? (fun y : S33 => y.f0 == loc)) l z62 k hk y hy (fun j hj hjl => hp ⟨j, hjl⟩ (mem_dn.2 hj))]
    have HFL := Aside0.mk hfl
    clear hp hpk hxk hy hfl
    gi_wp2
    refine ⟨by simp, .inl ⟨_, _, rfl, run_takeDeferred hK, ?_⟩⟩
    have hc1 := cell_kept b1.cell (grownBy_putObj' _ D1 (.deferred none)) (fun r e => by cases e; exact ⟨_, hK, rfl⟩)
    have hc2 := cell_kept b2.cell (grownBy_putObj' _ D1 (.deferred none)) (fun r e => by cases e; exact ⟨_, hK, rfl⟩)
    have hc3 := cell_kept b3.cell (grownBy_putObj' _ D1 (.deferred none)) (fun r e => by cases e; exact ⟨_, hK, rfl⟩)
    refine ⟨.tuple #[.int .i64 y.f1, .int .i64 0, .int .i64 1], ?_, by rw [HFL.out], hb.trans (belowK_b (w := w) (Nat.le_refl _) V D1 _ _ (by omega) hK rfl rfl)⟩
    simp [results, Try.f17, go_sem, hc1, hc2, hc3]
  case done =>
    rintro D1 zs V0 hD rfl ⟨hp, hB1⟩ hK
    have HP := Aside0.mk hp
    clear hp
    gi_wp2_with (gi_at_call 46; refine (back_in F (f - 1) h46 hro _ _ _ _).mono ?_; rintro e w' ⟨rfl, rfl⟩)
    obtain ⟨V1, hV1⟩ : ∃ V1, V0.alloc (.cells #[.slice A l.length c] 22) = V1 := ⟨_, rfl⟩
    have hB2 : Below W0.heap.size W0 V1 := by rw [← hV1]; exact hB1.alloc hB1.size _
    have hsz1 : V1.heap.size = V0.heap.size + 1 := by rw [← hV1]; simp
    have hD1 : D1 < V1.heap.size := by have := (Array.getElem?_eq_some_iff.1 hK).1; omega
    have hK1 : V1.heap[D1]? = some (.deferred (some [])) := by rw [← hV1]; exact (Below.heap_alloc V0 _ D1 (Array.getElem?_eq_some_iff.1 hK).1).trans hK
    have bS2 : Boxed V1 V0.heap.size 22 (.slice A l.length c) := by rw [← hV1]; exact Boxed.new V0 22 _
    rw [hV1]
    clear hV1 bS hK hB1
    have hla2 : LAt V1.heap.size V1 A l.length D := (hla.below hB2).up hB2.size
    have hBv : Below w.heap.size w V1 := hB0.trans (hB2.mono hB0.size)
    replace bL := boxed_below bL hB2
    replace bV := boxed_below bV hB2
    replace bU := boxed_below bU hB2
    replace bH := boxed_below bH hB2
    have hW0 := hB2.size
    clear hla hB2
    refine wpIn_rangeFunc_ownH hro h1 (gf := 62) (lb := #[.pointer (some ⟨V0.heap.size, 0, none⟩)]) rfl h62 (enters_of Try.func62 (by kernel_rfl) rfl)
      (back_stops F (f - 1) h62 hro (by omega) V0.heap.size l.length c A D hmax V1 (by omega) bS2.cell hla2) belowK_t (belowK_b (Nat.le_refl _)) (Below.refl _ _) (fun _ => rfl)
      (fun pre W => (∀ x ∈ pre, missR l loc x.1) ∧ Below V1.heap.size V1 W)
      (fun c pre W => Hit2 l loc w D1 c pre W)
      (OwnFrom.and (ownFrom_pure _ _) (ownFrom_below (Nat.le_refl _) (Nat.le_refl _)))
      (fun c => hit2_own l loc w D1 c V1.heap.size (by omega) hD1)
      ⟨by simp, Below.refl _ _⟩
      (fun x a' W => ∃ Bx, V1.heap.size ≤ Bx ∧ W.heap[Bx]? = some (.cells #[(D x.1).1, (D x.1).2.1, (D x.1).2.2] 62 (0, 0)) ∧ a' = { tmps := #[.slice A l.length c, .int .i64 loc, undef, .pointer (some ⟨w.heap.size, 0, none⟩), .pointer (some ⟨w.heap.size + 1, 0, none⟩), .pointer (some ⟨w.heap.size + 2, 0, none⟩), .pointer (some ⟨w.heap.size + 3, 0, none⟩), undef, undef, undef, undef, undef, .pointer (some ⟨Bx, 0, none⟩), undef, undef, .slice A l.length c, .func (.func 62) #[] #[.pointer (some ⟨w.heap.size + 4, 0, none⟩)], undef, undef, undef, undef, undef, undef, undef, undef, undef, undef, undef, undef, undef, undef, undef, undef, .slice A l.length c, .func (.func 62) #[] #[.pointer (some ⟨V0.heap.size, 0, none⟩)], .int .i64 (x.1 : Int), .agg #[(D x.1).1, (D x.1).2.1, (D x.1).2.2], undef, undef, undef, undef, undef, undef, undef, undef, undef, undef, undef, undef, undef, undef, undef, undef], defers := [] })
      (fun x a' _ X Y row hs hg hr => by obtain ⟨Bx, e1, e2, e3⟩ := hs; exact ⟨Bx, e1, blk_own e2 hg hr, e3⟩)
      ?assign2 ?body2 ?done2 ?stop2
    case assign2 =>
      rintro lp pre x W K ⟨hp, hB1⟩ hK
      have hsW := hB1.size
      have HP := Aside0.mk hp
      obtain ⟨ad, A0, c0, A1, c1, -, -, d0, d1, ⟨A2, c2, d2⟩, -⟩ := HD.out.at_ x.1 x.2
      generalize (l.getD x.1 z62).f0.length = n0 at d0
      generalize (l.getD x.1 z62).f1.length = n1 at d1
      generalize (l.getD x.1 z62).f2.length = n2 at d2
      have HE := Aside0.mk (And.intro d0 (And.intro d1 d2))
      have HK := Aside0.mk hK
      unfold encL
      rw [d0, d1, d2]
      clear hp hK d0 d1 d2
      gi_wp2
      refine HK.out _ _ ((KeepsOthers.alloc _ _).from _) ((Below.refl _ W).alloc hsW _) ⟨HP.out, hB1.alloc hsW _⟩ ⟨W.heap.size, hsW, ?_⟩
      rw [HE.out.1, HE.out.2.1, HE.out.2.2]
      exact ⟨World.alloc_heap_new W _, rfl⟩
    case body2 =>
      rintro lp pre x a' W hlp ⟨r, hr⟩ ⟨hp, hB1⟩ ⟨Bx, hBx, bX, rfl⟩ hlt
      obtain ⟨ad, A0, c0, A1, c1, -, -, d0, d1, ⟨A2, c2, d2⟩, -, -, -, k0, -⟩ := HD.out.at_ x.1 x.2
      generalize (l.getD x.1 z62).f1.length = n1 at d1
      generalize (l.getD x.1 z62).f2.length = n2 at d2
      rw [d0, d1, d2] at bX ⊢
      have hBw : Below w.heap.size w W := hBv.trans (hB1.mono hBv.size)
      have hx1 : W.cell? ⟨Bx, 0, none⟩ = some (.slice A0 (l.getD x.1 z62).f0.length c0) := by rw [blk_cell bX]; rfl
      have HP := Aside0.mk hp
      have K1 := Aside0.mk (Kd.C_below k0 hBw)
      have HX := Aside0.mk bX
      have hm1 : (l.getD x.1 z62).f0.length ≤ 9223372036854775807 := k0.2.1
      have BL := Aside0.mk (boxed_below bL hB1)
      have BV := Aside0.mk (boxed_below bV hB1)
      have BU := Aside0.mk (boxed_below bU hB1)
      have BH := Aside0.mk (boxed_below bH hB1)
      have BD := Aside0.mk ((hB1.block D1 hD1).trans hK1)
      have BW := Aside0.mk hB1
      have BWw := Aside0.mk hBw
      have SZ := Aside0.mk (And.intro hsz (And.intro hsz1 (And.intro hW0 hD)))
      clear hp d0 d1 d2 k0 bX bL bV bU bH bS2 hB1 hBw hBv hB0 hr hlp hBx hlt hsz hla2 hsz1 hW0 hK1 hD1 hD
      generalize hzs : (l.getD x.1 z62).f0 = zs at hx1 K1 hm1 ⊢
      have HZ := Aside0.mk hzs
      clear hzs
      gi_wp2
      gi_loopw [40] (fun i wr => ∃ kk : Nat, kk ≤ zs.length ∧ i = .int .i64 kk ∧ Aside0 (Below W.heap.size W wr) ∧ Aside0 (∀ j, j < kk → (zs.getD j z30).f0 ≠ loc)) (fun i _ => zs.length - (intOf i).toNat)
      case atStart => exact ⟨0, Nat.zero_le _, rfl, ⟨Below.refl _ _⟩, ⟨fun j hj => absurd hj (Nat.not_lt_zero _)⟩⟩
      case round =>
        obtain ⟨kk, hkk, rfl, BR, AF⟩ := hrel
        by_cases hlt : kk < zs.length
        · have hltz : (kk : Int) < (zs.length : Int) := by omega
          obtain ⟨ad, rfl, hc0, hc1, hc2⟩ := at_T30 (Kd.C_below K1.out BR.out) (kk : Int) (by omega) hltz
          rw [show rd_T30 zs (kk : Int) = zs.getD kk z30 from rfl, Int.toNat_natCast] at hc0 hc1 hc2
          generalize hy : zs.getD kk z30 = y at hc0 hc1 hc2
          have HY := Aside0.mk hy
          clear hy
          have hl := (boxed_below BL.out BR.out).cell
          have h5 : w.heap.size < wr.heap.size := by have := BW.out.size; have := BR.out.size; have := SZ.out; omega
          have h51 : w.heap.size + 1 < wr.heap.size := by have := BW.out.size; have := BR.out.size; have := SZ.out; omega
          have h52 : w.heap.size + 2 < wr.heap.size := by have := BW.out.size; have := BR.out.size; have := SZ.out; omega
          have h53 : w.heap.size + 3 < wr.heap.size := by have := BW.out.size; have := BR.out.size; have := SZ.out; omega
          by_cases hq : y.f0 = loc
          · have hv := (boxed_below BV.out BR.out).cell
            have hvf := (boxed_below BV.out BR.out).frozen
            have hu := (boxed_below BU.out BR.out).cell
            have huf := (boxed_below BU.out BR.out).frozen
            have hh := (boxed_below BH.out BR.out).cell
            have hhf := (boxed_below BH.out BR.out).frozen
            have hqb : (y.f0 == loc) = true := by simpa using hq
            have HQ := Aside0.mk hq
            clear hq
            gi_wp2
            gi_region
            all_goals gi_wp2
            all_goals have hle : w.heap.size ≤ wr.heap.size := by omega
            all_goals refine ⟨(((((keepsFrom_below BR.out).trans ((KeepsOthers.setCell _ _ _).from _)).trans ((KeepsOthers.setCell _ _ _).from _)).trans ((KeepsOthers.setCell _ _ _).from _)).trans ((KeepsOthers.alloc _ _).from _)).trans ((KeepsOthers.drew _).from _), ⟨⟨rfl, pre, x, rfl, HP.out, y, ?_, ((((boxed_below BV.out BR.out).set _).other (by omega) _).other (by omega) _).alloc _, ((((boxed_below BU.out BR.out).other (by omega) _).set _).other (by omega) _).alloc _⟩, ((((boxed_below BH.out BR.out).other (by omega) _).other (by omega) _).set _).alloc _⟩, ?_, ?_⟩
            all_goals first
              | (rw [HZ.out, ← HY.out]; exact find_hit (fun y : S30 => y.f0) zs z30 loc kk hlt AF.out (by rw [HY.out]; exact HQ.out))
              | exact (((((BWw.out.trans (BR.out.mono BWw.out.size)).setCell (p := ⟨w.heap.size + 1, 0, none⟩) (by simp) _).setCell (p := ⟨w.heap.size + 2, 0, none⟩) (by simp) _).setCell (p := ⟨w.heap.size + 3, 0, none⟩) (by simp) _).alloc (by simp; omega) _).drew
              | (have hdl := (Array.getElem?_eq_some_iff.1 BD.out).1
                 have hdr : wr.heap[D1]? = some (.deferred (some [])) := (BR.out.block D1 hdl).trans BD.out
                 have hne := SZ.out
                 exact hit_keep (by omega) (by omega) (by omega) hdr)
          · have hqb : (y.f0 == loc) = false := by simpa using hq
            have HQ := Aside0.mk hq
            clear hq
            gi_wp2
            go_roundw
            case rel =>
              refine ⟨kk + 1, by omega, by go_num, ⟨BR.out.alloc BR.out.size _⟩, ⟨fun j hj => ?_⟩⟩
              by_cases e : j = kk
              · subst e; rw [HY.out]; exact HQ.out
              · exact AF.out j (by omega)
            case measure => simp [intOf]; omega
        · have hltz : ¬ (kk : Int) < (zs.length : Int) := by omega
          have hk2 : kk = zs.length := by omega
          subst hk2
          gi_wp2
          refine ⟨keepsFrom_below BR.out, BR.out.mono BW.out.size, fun z hz => ?_, BW.out.trans (BR.out.mono BW.out.size)⟩
          rcases List.mem_append.1 hz with hz | hz
          · exact HP.out z hz
          · obtain rfl : z = x := by simpa using hz
            unfold missR
            rw [HZ.out]
            exact find_miss (fun y : S30 => y.f0) zs z30 loc AF.out
    case done2 =>
      rintro D2 zs V2 hD2 rfl ⟨hp2, hB3⟩ hK2
      have hfl : findL l loc = (0, 0, 0) := by
        exact findL_none (findSome_rev_none (fun x : S62 => x.f1.find? (fun y : S33 => y.f0 == loc)) l z62 (fun j hjl => HP.out ⟨j, hjl⟩ (mem_dn.2 (Nat.zero_le _))))
          (findSome_rev_none (fun x : S62 => x.f0.find? (fun y : S30 => y.f0 == loc)) l z62 (fun j hjl => hp2 ⟨j, hjl⟩ (mem_dn.2 (Nat.zero_le _))))
      have HFL := Aside0.mk hfl
      have hd1 : V2.heap[D1]? = some (.deferred (some [])) := (hB3.block D1 hD1).trans hK1
      have c1 := boxed_below bV hB3
      have c2 := boxed_below bU hB3
      have c3 := boxed_below bH hB3
      have e1 := c1.cell
      have e2 := c2.cell
      have e3 := c3.cell
      have f1 := c1.frozen
      have f2 := c2.frozen
      have f3 := c3.frozen
      have hBB := Aside0.mk (hBv.trans (hB3.mono hBv.size))
      clear hp2 hfl hB3 HP HD hla2
      gi_wp2
      have kd2 := ((((KeepsOthers.setCell V2 ⟨w.heap.size + 1, 0, none⟩ (.int .i64 0)).trans (KeepsOthers.setCell _ ⟨w.heap.size + 2, 0, none⟩ (.int .i64 0))).trans (KeepsOthers.setCell _ ⟨w.heap.size + 3, 0, none⟩ (.int .i64 0)))).same D2 _ hK2 rfl
      have kd1 := ((((KeepsOthers.setCell V2 ⟨w.heap.size + 1, 0, none⟩ (.int .i64 0)).trans (KeepsOthers.setCell _ ⟨w.heap.size + 2, 0, none⟩ (.int .i64 0))).trans (KeepsOthers.setCell _ ⟨w.heap.size + 3, 0, none⟩ (.int .i64 0)))).same D1 _ hd1 rfl
      have g1 := ((c1.set (.int .i64 0)).other (B' := w.heap.size + 2) (by omega) (.int .i64 0)).other (B' := w.heap.size + 3) (by omega) (.int .i64 0)
      have g2 := ((c2.other (B' := w.heap.size + 1) (by omega) (.int .i64 0)).set (.int .i64 0)).other (B' := w.heap.size + 3) (by omega) (.int .i64 0)
      have g3 := ((c3.other (B' := w.heap.size + 1) (by omega) (.int .i64 0)).other (B' := w.heap.size + 2) (by omega) (.int .i64 0)).set (.int .i64 0)
      have hb := ((hBB.out.setCell (p := ⟨w.heap.size + 1, 0, none⟩) (by simp) (.int .i64 0)).setCell (p := ⟨w.heap.size + 2, 0, none⟩) (by simp) (.int .i64 0)).setCell (p := ⟨w.heap.size + 3, 0, none⟩) (by simp) (.int .i64 0)
      revert kd1 kd2 g1 g2 g3 hb
      generalize ((V2.setCell ⟨w.heap.size + 1, 0, none⟩ (.int .i64 0)).setCell ⟨w.heap.size + 2, 0, none⟩ (.int .i64 0)).setCell ⟨w.heap.size + 3, 0, none⟩ (.int .i64 0) = V
      intro kd2 kd1 g1 g2 g3 hb
      exact find_end (by omega) (by omega) (by omega) kd2 kd1 g1 g2 g3 hb (by rw [HFL.out])
    case stop2 =>
      rintro D2 c pre V hD2 hpre hx hK2
      obtain ⟨⟨⟨rfl, p, x, rfl, hp2, y, hy, b1, b2⟩, b3⟩, hb, hd1⟩ := hx
      obtain ⟨k, hk, hpk⟩ := hpre
      rw [dn_succ hk] at hpk
      obtain ⟨rfl, hxk⟩ := List.append_inj' hpk rfl
      obtain rfl : x = ⟨k, hk⟩ := by simpa using hxk
      have hfl : findL l loc = (y.f2, y.f1, 2) := by
        exact findL_read (findSome_rev_none (fun x : S62 => x.f1.find? (fun y : S33 => y.f0 == loc)) l z62 (fun j hjl => HP.out ⟨j, hjl⟩ (mem_dn.2 (Nat.zero_le _))))
          (findSome_rev (fun x : S62 => x.f0.find? (fun y : S30 => y.f0 == loc)) l z62 k hk y hy (fun j hj hjl => hp2 ⟨j, hjl⟩ (mem_dn.2 hj)))
      have HFL := Aside0.mk hfl
      clear hp2 hpk hxk hy hfl HP HD hla2
      gi_wp2
      exact find_end (by omega) (by omega) (by omega) hK2 hd1 b1 b2 b3 hb (by rw [HFL.out])

/-! ### nest.Find: function 17 -/
def nFind.f (l : List S62) (loc : Int) : Option (Int × Int × Int) := some (findL l loc)
theorem nFind.calls (A0 : Option Addr) (c0 : Nat) (l0 : List S62) (a1 : Int) (r1 r2 r3 : Int) (w : World) (hr0 : Kd.C k62 w A0 l0.length l0) (hc0 : l0.length ≤ c0) (h : nFind.f l0 a1 = some (r1, r2, r3)) :
    Calls Try.prog 17 #[.slice A0 l0.length c0, .int .i64 a1] w fun e w' => e = .returned (.tuple #[.int .i64 r1, .int .i64 r2, .int .i64 r3]) ∧ Below w.heap.size w w' := by
  unfold nFind.f at h
  have he := Option.some.inj h
  refine (callsIn_wide (n := 6)).1 ((find_in Fence.wide 6 trivial trivial trivial rfl (Nat.le_refl _) A0 c0 l0 a1 w hr0).mono ?_)
  rintro e w' ⟨rfl, hb⟩
  rw [he]
  exact ⟨rfl, hb⟩
end Go.Proofs.Ytfojpobblebigaa.P
