/- Plain theory of package nest: how reads and writes of a level are found, before and behind its steps. -/
import Derived.Test.YtfojpobblebigaaHq
namespace Go.Proofs.Ytfojpobblebigaa.Pure
open Go.RowKit Go.Proofs.Ytfojpobblebigaa.P Go.Proofs.YtfojpobblebigaaW.PrintWords
set_option linter.unusedVariables false

/-- The first read of a location. -/
def fR (loc : Int) (l : List S30) : Option S30 := l.find? (fun y => y.f0 == loc)
/-- The first write of a location. -/
def fW (loc : Int) (l : List S33) : Option S33 := l.find? (fun y => y.f0 == loc)
theorem fR_nil (loc : Int) : fR loc [] = none := rfl
theorem fW_nil (loc : Int) : fW loc [] = none := rfl
theorem fR_any (loc : Int) (l : List S30) : l.any (fun y => y.f0 == loc) = (fR loc l).isSome := by
  unfold fR; rw [Bool.eq_iff_iff]; simp
theorem fW_any (loc : Int) (l : List S33) : l.any (fun y => y.f0 == loc) = (fW loc l).isSome := by
  unfold fW; rw [Bool.eq_iff_iff]; simp
theorem fR_append (loc : Int) (a b : List S30) : fR loc (a ++ b) = (fR loc a).or (fR loc b) := List.find?_append
theorem fW_append (loc : Int) (a b : List S33) : fW loc (a ++ b) = (fW loc a).or (fW loc b) := List.find?_append
theorem fR_cons (loc : Int) (s : S30) (b : List S30) : fR loc (s :: b) = (if s.f0 = loc then some s else fR loc b) := by
  unfold fR
  rw [List.find?_cons]
  by_cases h : s.f0 = loc
  · simp [h]
  · rw [if_neg h, show (s.f0 == loc) = false from by simpa using h]
theorem fW_cons (loc : Int) (s : S33) (b : List S33) : fW loc (s :: b) = (if s.f0 = loc then some s else fW loc b) := by
  unfold fW
  rw [List.find?_cons]
  by_cases h : s.f0 = loc
  · simp [h]
  · rw [if_neg h, show (s.f0 == loc) = false from by simpa using h]
theorem fW_key {loc : Int} {l : List S33} {y : S33} (h : fW loc l = some y) : y.f0 = loc := by
  have := List.find?_some h
  simpa using this
theorem fR_key {loc : Int} {l : List S30} {y : S30} (h : fR loc l = some y) : y.f0 = loc := by
  have := List.find?_some h
  simpa using this

/-! ### reads -/
theorem fR_step (loc : Int) (a : List S30) (s : S30) : fR loc (readStep a s) = (fR loc a).or (if s.f0 = loc then some s else none) := by
  unfold readStep
  by_cases h : a.any (fun x => x.f0 == s.f0) = true
  · rw [if_pos h]
    by_cases e : s.f0 = loc
    · rw [if_pos e]
      rw [e, fR_any] at h
      obtain ⟨y, hy⟩ := Option.isSome_iff_exists.1 h
      rw [hy]; rfl
    · rw [if_neg e]; simp
  · rw [if_neg h, fR_append, fR_cons, fR_nil]
theorem fR_readL (loc : Int) : ∀ (b a : List S30), fR loc (readL a b) = (fR loc a).or (fR loc b)
  | [], a => by simp [readL, fR_nil]
  | s :: b, a => by
    have ih := fR_readL loc b (readStep a s)
    show fR loc (readL (readStep a s) b) = _
    rw [ih, fR_step, fR_cons]
    by_cases e : s.f0 = loc
    · rw [if_pos e, if_pos e]
      cases fR loc a <;> rfl
    · rw [if_neg e, if_neg e]
      simp
/-- Each location once. -/
def OnceR (l : List S30) : Prop := (l.map (·.f0)).Nodup
theorem onceR_step {a : List S30} (s : S30) (h : OnceR a) : OnceR (readStep a s) := by
  unfold readStep
  by_cases e : a.any (fun x => x.f0 == s.f0) = true
  · rw [if_pos e]; exact h
  · rw [if_neg e]
    unfold OnceR at *
    rw [List.map_append, List.nodup_append]
    refine ⟨h, by simp, fun x hx y hy => ?_⟩
    simp at hy
    subst hy
    rintro rfl
    apply e
    simp at hx ⊢
    obtain ⟨z, hz, hz2⟩ := hx
    exact ⟨z, hz, hz2⟩
theorem onceR_readL : ∀ (b : List S30) {a : List S30}, OnceR a → OnceR (readL a b)
  | [], a, h => h
  | s :: b, a, h => onceR_readL b (onceR_step s h)
theorem mem_keysR {loc : Int} {l : List S30} : loc ∈ l.map (·.f0) ↔ (fR loc l).isSome = true := by
  rw [← fR_any]; simp
/-- Lists without twice the same that hold the same are of one length. -/
theorem len_le : ∀ {a b : List Int}, a.Nodup → (∀ x, x ∈ a → x ∈ b) → a.length ≤ b.length
  | [], _, _, _ => Nat.zero_le _
  | x :: a, b, hn, hs => by
    rw [List.nodup_cons] at hn
    have hx : x ∈ b := hs x (by simp)
    have h2 : a.length ≤ (b.erase x).length := len_le hn.2 (fun y hy => by
      have hne : y ≠ x := fun e => hn.1 (e ▸ hy)
      exact (List.mem_erase_of_ne hne).2 (hs y (by simp [hy])))
    have h3 := List.length_erase_of_mem hx
    have h4 := List.length_pos_of_mem hx
    rw [List.length_cons]; omega
theorem sameR {a b : List S30} (ha : OnceR a) (hb : OnceR b) (h : ∀ loc, (fR loc a).isSome = (fR loc b).isSome) : a.length = b.length := by
  have h1 : (a.map (·.f0)).length ≤ (b.map (·.f0)).length := len_le ha (fun x hx => by rw [mem_keysR] at hx ⊢; rw [← h]; exact hx)
  have h2 : (b.map (·.f0)).length ≤ (a.map (·.f0)).length := len_le hb (fun x hx => by rw [mem_keysR] at hx ⊢; rw [h]; exact hx)
  simp only [List.length_map] at h1 h2
  omega

/-! ### writes -/
theorem fW_take_none {loc : Int} {l : List S33} {k : Nat} (h : ∀ j, j < k → ∀ hj : j < l.length, l[j].f0 ≠ loc) : fW loc (l.take k) = none := by
  unfold fW
  rw [List.find?_eq_none]
  intro x hx
  obtain ⟨j, hj, rfl⟩ := List.getElem_of_mem hx
  rw [List.length_take] at hj
  have := h j (by omega) (by omega)
  simpa using this
theorem idx_lt {l : List S33} {p : S33 → Bool} (h : l.any p = true) : l.findIdx p < l.length := by
  rw [List.findIdx_lt_length]; simpa using h
theorem fW_step (loc : Int) (a : List S33) (x : S33) : fW loc (putStep a x) = if x.f0 = loc then some x else fW loc a := by
  unfold putStep
  by_cases h : a.any (fun y => y.f0 == x.f0) = true
  · rw [if_pos h]
    have hk := idx_lt h
    generalize hkk : a.findIdx (fun y => y.f0 == x.f0) = k at hk
    have hhit : a[k].f0 = x.f0 := by
      subst hkk
      have := List.findIdx_getElem (w := hk)
      simpa using this
    have hno : ∀ j, j < k → ∀ hj : j < a.length, a[j].f0 ≠ x.f0 := by
      intro j hj hjl
      subst hkk
      have := List.not_of_lt_findIdx hj
      simpa using this
    have e1 : a = a.take k ++ a[k] :: a.drop (k + 1) := by rw [← List.drop_eq_getElem_cons hk, List.take_append_drop]
    have e2 : a.set k x = a.take k ++ x :: a.drop (k + 1) := by
      rw [List.set_eq_take_append_cons_drop, if_pos hk]
    rw [e2, fW_append, fW_cons]
    by_cases e : x.f0 = loc
    · rw [if_pos e, if_pos e, fW_take_none (fun j hj hjl => by rw [← e]; exact hno j hj hjl)]; rfl
    · rw [if_neg e, if_neg e]
      conv => rhs; rw [e1]
      rw [fW_append, fW_cons, if_neg (by rw [hhit]; exact e)]
  · rw [if_neg h]
    unfold ins
    rw [fW_append, fW_cons]
    have hno : fW x.f0 a = none := by
      rw [fW_any] at h
      cases hq : fW x.f0 a with
      | none => rfl
      | some y => rw [hq] at h; exact absurd rfl h
    by_cases e : x.f0 = loc
    · rw [if_pos e, if_pos e]
      have : fW loc (a.take (a.findIdx (fun y => decide (x.f0 < y.f0)))) = none := by
        rw [e] at hno
        have h2 := hno
        rw [← List.take_append_drop (a.findIdx (fun y => decide (x.f0 < y.f0))) a, fW_append] at h2
        cases hq : fW loc (a.take (a.findIdx (fun y => decide (x.f0 < y.f0)))) with
        | none => rfl
        | some y => rw [hq] at h2; cases h2
      rw [this]; rfl
    · rw [if_neg e, if_neg e, ← fW_append, List.take_append_drop]
/-- The last write of a location. -/
def lW (loc : Int) (l : List S33) : Option S33 := fW loc l.reverse
theorem lW_nil (loc : Int) : lW loc [] = none := rfl
theorem lW_cons (loc : Int) (x : S33) (b : List S33) : lW loc (x :: b) = (lW loc b).or (if x.f0 = loc then some x else none) := by
  unfold lW; rw [List.reverse_cons, fW_append, fW_cons, fW_nil]
theorem fW_writeL (loc : Int) : ∀ (b a : List S33), fW loc (writeL a b) = (lW loc b).or (fW loc a)
  | [], a => by simp [writeL, lW_nil]
  | x :: b, a => by
    have ih := fW_writeL loc b (putStep a x)
    show fW loc (writeL (putStep a x) b) = _
    rw [ih, fW_step, lW_cons]
    by_cases e : x.f0 = loc
    · rw [if_pos e, if_pos e]
      cases lW loc b <;> rfl
    · rw [if_neg e, if_neg e]
      cases lW loc b <;> rfl
def OnceW (l : List S33) : Prop := (l.map (·.f0)).Nodup
theorem lW_once {loc : Int} : ∀ {l : List S33}, OnceW l → lW loc l = fW loc l
  | [], _ => rfl
  | x :: l, h => by
    unfold OnceW at h
    rw [List.map_cons, List.nodup_cons] at h
    have ih := lW_once (loc := loc) (l := l) h.2
    rw [lW_cons, fW_cons, ih]
    by_cases e : x.f0 = loc
    · rw [if_pos e, if_pos e]
      have : fW loc l = none := by
        cases hq : fW loc l with
        | none => rfl
        | some y =>
          refine absurd ?_ h.1
          rw [List.mem_map]
          exact ⟨y, List.mem_of_find?_eq_some hq, by rw [fW_key hq, e]⟩
      rw [this]; rfl
    · rw [if_neg e, if_neg e]; simp
theorem onceW_step {a : List S33} (x : S33) (h : OnceW a) : OnceW (putStep a x) := by
  unfold putStep
  by_cases e : a.any (fun y => y.f0 == x.f0) = true
  · rw [if_pos e]
    have hk := idx_lt e
    have hhit := List.findIdx_getElem (w := hk)
    unfold OnceW at *
    have : (a.set (a.findIdx (fun y => y.f0 == x.f0)) x).map (·.f0) = a.map (·.f0) := by
      rw [List.map_set]
      have hx : x.f0 = (a.map (·.f0))[a.findIdx (fun y => y.f0 == x.f0)]'(by simpa using hk) := by
        rw [List.getElem_map]
        exact (by simpa using hhit : _ = x.f0).symm
      conv => lhs; arg 3; rw [hx]
      exact List.set_getElem_self _
    rw [this]; exact h
  · rw [if_neg e]
    unfold ins OnceW at *
    have hp : ((a.take (a.findIdx (fun y => decide (x.f0 < y.f0))) ++ x :: a.drop (a.findIdx (fun y => decide (x.f0 < y.f0)))).map (·.f0)).Perm ((x :: a).map (·.f0)) := by
      apply List.Perm.map
      refine List.perm_middle.trans ?_
      rw [List.take_append_drop]
    rw [hp.nodup_iff, List.map_cons, List.nodup_cons]
    refine ⟨fun hx => e ?_, h⟩
    simpa using hx
theorem onceW_writeL : ∀ (b : List S33) {a : List S33}, OnceW a → OnceW (writeL a b)
  | [], a, h => h
  | s :: b, a, h => onceW_writeL b (onceW_step s h)
end Go.Proofs.Ytfojpobblebigaa.Pure
