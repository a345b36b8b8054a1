/- A level behind a pointer: nest.read, write, keep in one form; nest.last at every change. -/
import Derived.Test.YtfojpobblebigaaHe
namespace Go.Proofs.Ytfojpobblebigaa.P
open Go.RowKit Go.Proofs.YtfojpobblebigaaW.PrintWords Go.Proofs.YtfojpobblebigaaW.PrintLast Go.Proofs.YtfojpobblebigaaW.PrintMore
set_option linter.unusedVariables false
set_option linter.unusedSimpArgs false

/-- Block g holds levels; the one at off is x. -/
def Lvl (W : World) (g off : Nat) (ok : Nat → Prop) (x : S62) (cs : Array Value) : Prop :=
  W.heap[g]? = some (.cells cs 62 (0, 0)) ∧ ∃ c : List Value, (∀ j, j < 3 → cs[off + j]? = c[j]?) ∧ Kd.FK k62 W (fun k => ok k ∧ k ≠ g) x c
/-- The level at off alone has changed. -/
def Near (off : Nat) (cs cs' : Array Value) : Prop := cs'.size = cs.size ∧ ∀ j, (j < off ∨ off + 3 ≤ j) → cs'[j]? = cs[j]?
theorem Near.refl (off : Nat) (cs : Array Value) : Near off cs cs := ⟨rfl, fun _ _ => rfl⟩
theorem Near.trans {off : Nat} {a b c : Array Value} (h : Near off a b) (k : Near off b c) : Near off a c := ⟨k.1.trans h.1, fun j hj => (k.2 j hj).trans (h.2 j hj)⟩
theorem Near.set (off : Nat) (cs : Array Value) (i : Nat) (hi : i < 3) (v : Value) : Near off cs (cs.setIfInBounds (off + i) v) :=
  ⟨by simp, fun j hj => by rw [Array.getElem?_setIfInBounds_ne (by omega)]⟩

theorem lvl_parts {W : World} {g off : Nat} {ok : Nat → Prop} {x : S62} {cs : Array Value} (h : Lvl W g off ok x cs) :
    ∃ A0 c0 A1 c1 A2 c2, W.heap[g]? = some (.cells cs 62 (0, 0)) ∧ cs[off]? = some (.slice A0 x.f0.length c0) ∧ cs[off + 1]? = some (.slice A1 x.f1.length c1) ∧ cs[off + 2]? = some (.slice A2 x.f2.length c2) ∧
      x.f0.length ≤ c0 ∧ Kd.F k30 W (fun k => ok k ∧ k ≠ g) A0 x.f0.length x.f0 ∧ x.f1.length ≤ c1 ∧ Kd.F k33 W (fun k => ok k ∧ k ≠ g) A1 x.f1.length x.f1 ∧ x.f2.length ≤ c2 ∧ Kd.F k50 W (fun k => ok k ∧ k ≠ g) A2 x.f2.length x.f2 := by
  obtain ⟨hb, c, hc, hf⟩ := h
  obtain ⟨A0, c0, A1, c1, A2, c2, rfl, r⟩ := k62_openF hf
  exact ⟨A0, c0, A1, c1, A2, c2, hb, hc 0 (by omega), hc 1 (by omega), hc 2 (by omega), r⟩
theorem lvl_mk {W : World} {g off : Nat} {ok : Nat → Prop} {x : S62} {cs : Array Value} {A0 A1 A2 : Option Addr} {c0 c1 c2 : Nat} (hb : W.heap[g]? = some (.cells cs 62 (0, 0)))
    (h0 : cs[off]? = some (.slice A0 x.f0.length c0)) (h1 : cs[off + 1]? = some (.slice A1 x.f1.length c1)) (h2 : cs[off + 2]? = some (.slice A2 x.f2.length c2))
    (l0 : x.f0.length ≤ c0) (f0 : Kd.F k30 W (fun k => ok k ∧ k ≠ g) A0 x.f0.length x.f0) (l1 : x.f1.length ≤ c1) (f1 : Kd.F k33 W (fun k => ok k ∧ k ≠ g) A1 x.f1.length x.f1) (l2 : x.f2.length ≤ c2) (f2 : Kd.F k50 W (fun k => ok k ∧ k ≠ g) A2 x.f2.length x.f2) : Lvl W g off ok x cs := by
  refine ⟨hb, _, fun j hj => ?_, k62_mkF W _ x l0 f0 l1 f1 l2 f2⟩
  rcases j with _ | _ | _ | j
  · exact h0
  · exact h1
  · exact h2
  · omega

/-- What a step on a level leaves. -/
def LvlTo (W : World) (g off : Nat) (ok : Nat → Prop) (cs : Array Value) (y : S62) (w' : World) : Prop := ∃ cs', Lvl w' g off ok y cs' ∧ Near off cs cs' ∧ KeepBut W w' g none ∧ Below 0 W w'
theorem LvlTo.trans {W w1 w2 : World} {g off : Nat} {ok : Nat → Prop} {cs cs1 : Array Value} {y : S62} (hn : Near off cs cs1) (hk : KeepBut W w1 g none) (hz : Below 0 W w1) (h : LvlTo w1 g off ok cs1 y w2) : LvlTo W g off ok cs y w2 := by
  obtain ⟨cs', h1, h2, h3, h4⟩ := h
  exact ⟨cs', h1, hn.trans h2, hk.trans h3 (.inl rfl), hz.trans h4⟩

theorem read_lvl (W : World) (g off : Nat) (ok : Nat → Prop) (x : S62) (cs : Array Value) (Am : Option Addr) (nm cm : Nat) (more : List S30) (h : Lvl W g off ok x cs)
    (hm : Kd.F k30 W (fun k => ok k ∧ k ≠ g) Am nm more) (hl : x.f0.length + more.length ≤ LIM) (hok : ∀ k, W.heap.size ≤ k → ok k) :
    Calls Try.prog 38 #[.pointer (some ⟨g, off, none⟩), .slice Am nm cm] W fun e w' => e = .returned (.tuple #[]) ∧ LvlTo W g off ok cs { x with f0 := readL x.f0 more } w' := by
  obtain ⟨A0, c0, A1, c1, A2, c2, hb, h0, h1, h2, l0, f0, l1, f1, l2, f2⟩ := lvl_parts h
  have hg := blk_lt hb
  refine (read_walk W g off cs A0 x.f0.length c0 x.f0 Am nm cm more hb h0 (Kd.F_now f0) l0 (fun W' hk => Kd.F_now (Kd.F_keep hm hk (fun k hk => hk.2))) hl).mono ?_
  rintro e w' ⟨rfl, v, hb', hN, hK, hZ⟩
  obtain ⟨A9, c9, rfl⟩ := Kd.N_slice hN
  have hs : off < cs.size := (Array.getElem?_eq_some_iff.1 h0).1
  refine ⟨rfl, _, lvl_mk hb' (lp_get h0) ((Array.getElem?_setIfInBounds_ne (by omega)).trans h1) ((Array.getElem?_setIfInBounds_ne (by omega)).trans h2) (Kd.N_reads' hN).2.1 (Kd.F_mono (Kd.N_F hN) (fun k hk => ⟨hok k hk, by omega⟩)) l1 (Kd.F_keep f1 hK (fun k hk => hk.2)) l2 (Kd.F_keep f2 hK (fun k hk => hk.2)), Near.set off cs 0 (by omega) _, hK, hZ⟩
theorem write_lvl (W : World) (g off : Nat) (ok : Nat → Prop) (x : S62) (cs : Array Value) (Am : Option Addr) (nm cm : Nat) (more : List S33) (h : Lvl W g off ok x cs)
    (hm : Kd.F k33 W (fun k => ok k ∧ k ≠ g) Am nm more) (hl : x.f1.length + more.length ≤ LIM) (hok : ∀ k, W.heap.size ≤ k → ok k) :
    Calls Try.prog 40 #[.pointer (some ⟨g, off, none⟩), .slice Am nm cm] W fun e w' => e = .returned (.tuple #[]) ∧ LvlTo W g off ok cs { x with f1 := writeL x.f1 more } w' := by
  obtain ⟨A0, c0, A1, c1, A2, c2, hb, h0, h1, h2, l0, f0, l1, f1, l2, f2⟩ := lvl_parts h
  have hg := blk_lt hb
  refine (write_walk W g off cs A1 x.f1.length c1 x.f1 Am nm cm more hb h1 (Kd.F_now f1) l1 (fun W' hk => Kd.F_now (Kd.F_keep hm hk (fun k hk => hk.2))) hl).mono ?_
  rintro e w' ⟨rfl, v, hb', hN, hK, hZ⟩
  obtain ⟨A9, c9, rfl⟩ := Kd.N_slice hN
  refine ⟨rfl, _, lvl_mk hb' ((Array.getElem?_setIfInBounds_ne (by omega)).trans h0) (lp_get h1) ((Array.getElem?_setIfInBounds_ne (by omega)).trans h2) l0 (Kd.F_keep f0 hK (fun k hk => hk.2)) (Kd.N_reads' hN).2.1 (Kd.F_mono (Kd.N_F hN) (fun k hk => ⟨hok k hk, by omega⟩)) l2 (Kd.F_keep f2 hK (fun k hk => hk.2)), Near.set off cs 1 (by omega) _, hK, hZ⟩
theorem keep_lvl (W : World) (g off : Nat) (ok : Nat → Prop) (x : S62) (cs : Array Value) (Am : Option Addr) (nm cm : Nat) (more : List S50) (h : Lvl W g off ok x cs)
    (hm : Kd.F k50 W (fun k => ok k ∧ k ≠ g) Am nm more) (hl : x.f2.length + more.length ≤ LIM) (hok : ∀ k, W.heap.size ≤ k → ok k) :
    Calls Try.prog 51 #[.pointer (some ⟨g, off, none⟩), .slice Am nm cm] W fun e w' => e = .returned (.tuple #[]) ∧ LvlTo W g off ok cs { x with f2 := x.f2 ++ more } w' := by
  obtain ⟨A0, c0, A1, c1, A2, c2, hb, h0, h1, h2, l0, f0, l1, f1, l2, f2⟩ := lvl_parts h
  have hg := blk_lt hb
  refine (keep_walk W g off cs (fun k => ok k ∧ k ≠ g) (fun k => ok k ∧ k ≠ g) A2 x.f2.length c2 x.f2 Am nm cm more hb h2 f2 l2 hm (fun k hk => hk.2) (fun k hk => hk.2) hl).mono ?_
  rintro e w' ⟨rfl, v, hb', hN, hK, hZ⟩
  obtain ⟨A9, c9, rfl⟩ := Kd.N_slice hN
  refine ⟨rfl, _, lvl_mk hb' ((Array.getElem?_setIfInBounds_ne (by omega)).trans h0) ((Array.getElem?_setIfInBounds_ne (by omega)).trans h1) (lp_get h2) l0 (Kd.F_keep f0 hK (fun k hk => hk.2)) l1 (Kd.F_keep f1 hK (fun k hk => hk.2)) (Kd.N_reads' hN).2.1 (Kd.F_mono (Kd.N_F hN) (fun k hk => ?_)), Near.set off cs 2 (by omega) _, hK, hZ⟩
  rcases hk with (hk | hk) | hk
  · exact hk
  · exact hk
  · exact ⟨hok k hk, by omega⟩

theorem chunk_eq {L : Array Value} {n j : Nat} {p : List Value} (hp : p.length = 3) (hj : j < n) (h : ∀ q, q < 3 → L[j * 3 + q]? = p[q]?) : ((L.toList.take (n * 3)).drop (j * 3)).take 3 = p := by
  refine List.ext_getElem? fun q => ?_
  by_cases hq : q < 3
  · rw [List.getElem?_take, if_pos hq, List.getElem?_drop, List.getElem?_take, if_pos (by omega), Array.getElem?_toList]
    exact h q hq
  · rw [List.getElem?_take, if_neg hq, List.getElem?_eq_none (by omega)]
theorem N62_upd {W w2 : World} {base g cap : Nat} {ok ok' : Nat → Prop} {xs : List S62} {cells cells' : Array Value} {i : Nat} {y : S62}
    (h : Kd.N k62 62 W base ok (.slice (some ⟨g, 0, none⟩) xs.length cap) xs) (hb : W.heap[g]? = some (.cells cells 62 (0, 0))) (hi : i < xs.length) (hK : KeepBut W w2 g none)
    (hn : Near (i * 3) cells cells') (hy : Lvl w2 g (i * 3) ok' y cells') (hok : ∀ k, ok k → ok' k) :
    Kd.N k62 62 w2 base ok' (.slice (some ⟨g, 0, none⟩) xs.length cap) (xs.set i y) := by
  obtain ⟨h0, rows, hl, ⟨_, inner, ho, hr⟩, hf⟩ := h
  obtain ⟨hb2, c, hc, hfk⟩ := hy
  have hcl : c.length = 3 := k62.K_len (Kd.FK_now hfk)
  have hc1 := k62.K_one (Kd.FK_now hfk)
  obtain ⟨h1, h2⟩ := ho
  rcases h2 with ⟨hv, _⟩ | ⟨g', c', cur, hv, hg, hh, hn', hc', hs, ht⟩
  · cases hv
  · injection hv with ha _ hcc
    injection ha with ha
    injection ha with ha
    subst ha; subst hcc
    rw [hb] at hh
    injection hh with hh
    injection hh with hh
    subst hh
    have hs3 : cells.size = cap * 3 := hs
    have ht3 : cells.toList.take (rows.length * 3) = inner := ht
    have hir : i < rows.length := by omega
    have hc'i : rows.length ≤ cap := hn'
    have hlen : (cells'.toList.take (rows.length * 3)).length = rows.length * 3 := by
      rw [List.length_take, (Array.length_toList (xs := cells')).trans (hn.1.trans hs3)]
      exact Nat.min_eq_left (Nat.mul_le_mul_right _ hc'i)
    refine ⟨fun k hk => hok k (h0 k hk), rows.set i c, by simp [hl], ⟨fun k hk => hk.symm, cells'.toList.take (rows.length * 3), ⟨?_, .inr ⟨g, cap, cells', by simp [hl], hg, hb2, by simpa using hn', hc', ?_, by simp; rfl⟩⟩, ⟨?_, ?_⟩⟩, ?_⟩
    · rw [List.length_set]; exact hlen
    · rw [hn.1]; exact hs
    · rw [List.length_set]; exact hlen
    · intro j p hj
      by_cases e : j = i
      · subst e
        rw [List.getElem?_set_self hir] at hj
        obtain rfl := Option.some.inj hj
        have e := chunk_eq hcl hir hc
        exact ⟨e, by rw [show (Kd.raw k62.sz).sz = 3 from rfl, e]; exact hcl, by rw [show (Kd.raw k62.sz).sz = 3 from rfl, e]; exact hc1⟩
      · rw [List.getElem?_set_ne (fun h => e h.symm)] at hj
        have hjl := (List.getElem?_eq_some_iff.1 hj).1
        obtain ⟨q1, q2, q3⟩ := hr.2 j p hj
        have q1' : ((inner.drop (j * 3)).take 3) = p := q1
        have q2' : p.length = 3 := by rw [← q1']; exact q2
        have q3' : ∀ u ∈ p, u.oneCell' = true := by rw [← q1']; exact q3
        have e := chunk_eq (L := cells') q2' hjl (fun q hq => ?_)
        · exact ⟨e, by rw [show (Kd.raw k62.sz).sz = 3 from rfl, e]; exact q2', by rw [show (Kd.raw k62.sz).sz = 3 from rfl, e]; exact q3'⟩
        rw [hn.2 _ (by omega), ← q1', List.getElem?_take, if_pos hq, List.getElem?_drop, ← ht3, List.getElem?_take, if_pos (by omega), Array.getElem?_toList]
    · intro j x c0 hx hc0
      by_cases e : j = i
      · subst e
        rw [List.getElem?_set_self hir] at hc0
        rw [List.getElem?_set_self hi] at hx
        obtain rfl := Option.some.inj hc0
        obtain rfl := Option.some.inj hx
        exact Kd.FK_mono hfk (fun k hk => ⟨hk.1, fun h => hk.2 (by simpa [Value.ownBlock] using h)⟩)
      · rw [List.getElem?_set_ne (fun h => e h.symm)] at hc0 hx
        have := hf j x c0 hx hc0
        refine Kd.FK_mono (Kd.FK_step this (fun k hk hlt => hK.2 k hlt (fun h => hk.2 (by rw [h]; rfl)) (by simp))) (fun k hk => ⟨hok k hk.1, hk.2⟩)
end Go.Proofs.Ytfojpobblebigaa.P
