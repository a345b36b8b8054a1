/- Plain laws for package disk: what undoing gives behind a sync, what a crash leaves, byte by byte. -/
import Derived.Test.YtdaonhgcejjlhaaHp
import Derived.Test.YtdaonhgcejjlhaaHf
namespace Go.Proofs.Ytdaonhgcejjlhaa.P
open Go.RowKit Go.Proofs.YtdaonhgcejjlhaaW.PrintWords Go.Proofs.YtdaonhgcejjlhaaW.PrintLast Go.Proofs.YtdaonhgcejjlhaaW.PrintMore
set_option linter.unusedVariables false
set_option linter.unusedSimpArgs false

theorem getD_append_left {α : Type} (l r : List α) (d : α) {i : Nat} (h : i < l.length) : (l ++ r).getD i d = l.getD i d := by
  rw [List.getD_eq_getElem?_getD, List.getElem?_append_left h, ← List.getD_eq_getElem?_getD]
theorem getD_append_last {α : Type} (l : List α) (x d : α) : (l ++ [x]).getD l.length d = x := by
  rw [List.getD_eq_getElem?_getD, List.getElem?_append_right (Nat.le_refl _)]
  simp
theorem undoS_append (ws : List S46) (x : S46) : ∀ i s p, i ≤ ws.length → undoS (ws ++ [x]) i s p = undoS ws i s p
  | 0, s, p, _ => rfl
  | i + 1, s, p, h => by
    unfold undoS
    rw [getD_append_left ws [x] z46 (by omega)]
    exact undoS_append ws x i _ _ (by omega)
theorem set_set_back {s : List ByteArray} {a : Nat} (b : ByteArray) (h : a < s.length) : (s.set a b).set a (s.getD a ByteArray.empty) = s := by
  rw [List.set_set, List.getD_eq_getElem?_getD, List.getElem?_eq_getElem h]
  exact List.set_getElem_self h

/-- Since the last sync: so, before: what it left; ds: the writes since. -/
structure Since (n : Nat) (so : List ByteArray) (before : List S46) (s : List ByteArray) (was done ds : List S46) : Prop where
  dn : done = before ++ ds
  wl : was.length = ds.length
  same : ∀ j, j < ds.length → (was.getD j z46).f0 = (ds.getD j z46).f0
  sl : s.length = n
  dv : ∀ x ∈ ds, 0 ≤ x.f0 ∧ x.f0 < (n : Int) ∧ x.f1.size = 32
  un : ∀ p, was.length ≤ p.length → undoS was was.length s p = (so, ds.map (·.f1) ++ p.drop was.length)
theorem Since.start {n : Nat} {so : List ByteArray} {before : List S46} (h : so.length = n) : Since n so before so [] before [] where
  dn := by simp
  wl := rfl
  same := fun j h => by simp at h
  sl := h
  dv := fun x hx => by cases hx
  un := fun p _ => by simp [undoS]
theorem Since.write {n : Nat} {so : List ByteArray} {before : List S46} {s : List ByteArray} {was done ds : List S46} (h : Since n so before s was done ds) (a c : Int) (h0 : 0 ≤ a) (h1 : a < (n : Int)) :
    Since n so before (s.set a.toNat (full32 c)) (was ++ [⟨a, rdOf ByteArray.empty s a⟩]) (done ++ [⟨a, full32 c⟩]) (ds ++ [⟨a, full32 c⟩]) where
  dn := by rw [h.dn, List.append_assoc]
  wl := by simp [h.wl]
  same := fun j hj => by
    simp only [List.length_append, List.length_singleton] at hj
    by_cases e : j < ds.length
    · rw [getD_append_left _ _ _ (by rw [h.wl]; exact e), getD_append_left _ _ _ e]
      exact h.same j e
    · obtain rfl : j = ds.length := by omega
      rw [getD_append_last, ← h.wl, getD_append_last]
  sl := by rw [List.length_set]; exact h.sl
  dv := fun x hx => by
    rcases List.mem_append.1 hx with hx | hx
    · exact h.dv x hx
    · rw [List.mem_singleton.1 hx]
      exact ⟨h0, h1, full32_size c⟩
  un := fun p hp => by
    have ha : a.toNat < s.length := by rw [h.sl]; omega
    simp only [List.length_append, List.length_singleton] at hp ⊢
    unfold undoS
    rw [getD_append_last]
    simp only
    have e1 : (s.set a.toNat (full32 c)).set a.toNat (rdOf ByteArray.empty s a) = s := set_set_back _ ha
    have e2 : rdOf ByteArray.empty (s.set a.toNat (full32 c)) a = full32 c := by
      unfold rdOf
      rw [List.getD_eq_getElem?_getD, List.getElem?_set_self ha]
      rfl
    rw [e1, e2, undoS_append _ _ _ _ _ (Nat.le_refl _), h.un _ (by rw [List.length_set]; omega)]
    congr 1
    rw [List.map_append, List.append_assoc]
    congr 1
    have hlt : was.length < p.length := by omega
    rw [List.drop_eq_getElem_cons (by rw [List.length_set]; exact hlt), List.getElem_set_self, List.drop_set]
    rw [if_pos (by omega)]
    rfl
theorem stepC_write {n : Int} {st : List ByteArray × List S46 × List S46} {c : Int} (h : ¬ c = 255) : stepC n st c = (st.1.set (c % n).toNat (full32 c), st.2.1 ++ [⟨c % n, rdOf ByteArray.empty st.1 (c % n)⟩], st.2.2 ++ [⟨c % n, full32 c⟩]) := by
  unfold stepC
  rw [if_neg h]
theorem since_run {n : Nat} (hn : 0 < n) {so : List ByteArray} {before : List S46} : ∀ (r : List Int) (st : List ByteArray × List S46 × List S46) (ds : List S46), (∀ c ∈ r, ¬ c = 255) → Since n so before st.1 st.2.1 st.2.2 ds →
    ∃ ds', Since n so before (runC n r st).1 (runC n r st).2.1 (runC n r st).2.2 ds'
  | [], st, ds, _, h => ⟨ds, h⟩
  | c :: r, st, ds, hr, h => by
    have hc := hr c List.mem_cons_self
    show ∃ ds', Since n so before (runC n r (stepC n st c)).1 (runC n r (stepC n st c)).2.1 (runC n r (stepC n st c)).2.2 ds'
    refine since_run hn r (stepC n st c) (ds ++ [⟨c % n, full32 c⟩]) (fun x hx => hr x (List.mem_cons_of_mem _ hx)) ?_
    rw [stepC_write hc]
    exact h.write (c % n) c (Int.emod_nonneg _ (by omega)) (Int.emod_lt_of_pos _ (by omega))

/-- Where the last sync stands, among the first i commands. -/
def lastN (l : List Int) : Nat → Nat
  | 0 => 0
  | i + 1 => if rd l (i : Nat) = 255 then i + 1 else lastN l i
theorem lastN_le (l : List Int) : ∀ i, lastN l i ≤ i
  | 0 => Nat.le_refl _
  | i + 1 => by
    unfold lastN
    split
    · exact Nat.le_refl _
    · exact Nat.le_succ_of_le (lastN_le l i)
theorem lastN_sync (l : List Int) : ∀ i, lastN l i = 0 ∨ ∃ j, lastN l i = j + 1 ∧ j < i ∧ rd l (j : Nat) = 255
  | 0 => .inl rfl
  | i + 1 => by
    unfold lastN
    split
    · rename_i h
      exact .inr ⟨i, rfl, by omega, h⟩
    · rcases lastN_sync l i with h | ⟨j, h1, h2, h3⟩
      · exact .inl h
      · exact .inr ⟨j, h1, by omega, h3⟩
theorem lastN_rest (l : List Int) : ∀ i j, lastN l i ≤ j → j < i → ¬ rd l (j : Nat) = 255
  | 0, j, _, h => by omega
  | i + 1, j, h1, h2 => by
    unfold lastN at h1
    split at h1
    · omega
    · rename_i h
      by_cases e : j = i
      · subst e; exact h
      · exact lastN_rest l i j h1 (by omega)
theorem rd_get {l : List Int} {i : Nat} (h : i < l.length) : rd l (i : Nat) = l[i] := by
  unfold rd
  rw [Int.toNat_natCast, List.getD_eq_getElem?_getD, List.getElem?_eq_getElem h]
  rfl
theorem final_split (n : Nat) (l : List Int) (m : Nat) : finalC n l = runC n (l.drop m) (finalC n (l.take m)) := by
  unfold finalC runC
  rw [← List.foldl_append, List.take_append_drop]
theorem final_was (n : Nat) (l : List Int) : (finalC n (l.take (lastN l l.length))).2.1 = [] := by
  rcases lastN_sync l l.length with h | ⟨j, h1, h2, h3⟩
  · rw [h]; rfl
  · rw [h1, List.take_succ_eq_append_getElem h2]
    unfold finalC runC
    rw [List.foldl_append]
    show (stepC n _ l[j]).2.1 = []
    rw [rd_get h2] at h3
    unfold stepC
    rw [if_pos h3]
theorem since_final {n : Nat} (hn : 0 < n) (l : List Int) (hl : (finalC n (l.take (lastN l l.length))).1.length = n) :
    ∃ ds, Since n (finalC n (l.take (lastN l l.length))).1 (finalC n (l.take (lastN l l.length))).2.2 (finalC n l).1 (finalC n l).2.1 (finalC n l).2.2 ds := by
  have hw := final_was n l
  rw [final_split n l (lastN l l.length)]
  refine since_run hn _ _ [] (fun c hc => ?_) ?_
  · obtain ⟨i, hi, rfl⟩ := List.getElem_of_mem hc
    rw [List.length_drop] at hi
    rw [List.getElem_drop, ← rd_get]
    exact lastN_rest l l.length _ (by omega) (by omega)
  · rw [hw]
    exact Since.start hl

theorem bt_append (a b : ByteArray) (k : Nat) : bt (a ++ b) (k : Int) = if k < a.size then bt a (k : Int) else bt b ((k - a.size : Nat) : Int) := by
  unfold bt
  simp only [Int.toNat_natCast]
  by_cases h : k < a.size
  · rw [if_pos h]
    have h2 : k < (a ++ b).size := by rw [ByteArray.size_append]; omega
    rw [dif_pos h2, dif_pos h, ByteArray.getElem_append_left h]
  · rw [if_neg h]
    by_cases h3 : k < (a ++ b).size
    · have h4 : k - a.size < b.size := by rw [ByteArray.size_append] at h3; omega
      rw [dif_pos h3, dif_pos h4, ByteArray.getElem_append_right (by omega)]
    · have h4 : ¬ k - a.size < b.size := by rw [ByteArray.size_append] at h3; omega
      rw [dif_neg h3, dif_neg h4]
theorem bt_extract (a : ByteArray) (i j k : Nat) (h : i + k < j) (hj : j ≤ a.size) : bt (a.extract i j) (k : Int) = bt a ((i + k : Nat) : Int) := by
  unfold bt
  simp only [Int.toNat_natCast]
  have h1 : k < (a.extract i j).size := by rw [ByteArray.size_extract]; omega
  rw [dif_pos h1, dif_pos (by omega), ByteArray.getElem_extract]
theorem bt_glue {a b : ByteArray} {n k : Nat} (ha : a.size = 32) (hb : b.size = 32) (hn : n ≤ 32) (hk : k < 32) : bt (glue a n b) (k : Int) = if k < n then bt a (k : Int) else bt b (k : Int) := by
  unfold glue
  have hs : (a.extract 0 n).size = n := by rw [ByteArray.size_extract]; omega
  rw [bt_append, hs]
  by_cases h : k < n
  · rw [if_pos h, if_pos h, bt_extract _ _ _ _ (by omega) (by omega), Nat.zero_add]
  · rw [if_neg h, if_neg h, bt_extract _ _ _ _ (by omega) (by omega)]
    congr 2
    omega
theorem crS_byte {n : Nat} (ws : List S46) (h : ∀ x ∈ ws, 0 ≤ x.f0 ∧ x.f0 < (n : Int) ∧ x.f1.size = 32) (p : List ByteArray) (hp : ∀ j, j < ws.length → (p.getD j ByteArray.empty).size = 32) (cuts : List Int) (s : List ByteArray) (hsl : s.length = n) (hs : all32 s) (a k : Nat) (ha : a < n) (hk : k < 32) : ∀ i, i ≤ ws.length →
    bt ((crS ws p cuts i s).getD a ByteArray.empty) (k : Int) = bt (s.getD a ByteArray.empty) (k : Int) ∨ ∃ j, j < i ∧ (ws.getD j z46).f0 = (a : Int) ∧ bt ((crS ws p cuts i s).getD a ByteArray.empty) (k : Int) = bt (p.getD j ByteArray.empty) (k : Int)
  | 0, _ => .inl rfl
  | i + 1, hi => by
    have ih := crS_byte ws h p hp cuts s hsl hs a k ha hk i (by omega)
    have h32 := crS_32 ws h p hp cuts s hsl hs i (by omega)
    have hw := ws_get h (i := i) (by omega)
    have hlen := crS_len ws p cuts i s
    unfold crS
    by_cases e : (ws.getD i z46).f0 = (a : Int)
    · rw [e, Int.toNat_natCast, List.getD_eq_getElem?_getD, List.getElem?_set_self (by omega)]
      simp only [Option.getD_some]
      have e2 : rdOf ByteArray.empty p (i : Int) = p.getD i ByteArray.empty := rfl
      have e3 : rdOf ByteArray.empty (crS ws p cuts i s) (a : Int) = (crS ws p cuts i s).getD a ByteArray.empty := rfl
      rw [e2, e3, bt_glue (hp i (by omega)) (all32_get h32 (i := a) (by omega)) (cutF_le _ _) hk]
      by_cases hc : k < cutF cuts i
      · rw [if_pos hc]
        exact .inr ⟨i, by omega, e, rfl⟩
      · rw [if_neg hc]
        rcases ih with ih | ⟨j, h1, h2, h3⟩
        · exact .inl ih
        · exact .inr ⟨j, by omega, h2, h3⟩
    · have hne : (ws.getD i z46).f0.toNat ≠ a := by omega
      rw [List.getD_eq_getElem?_getD, List.getElem?_set_ne hne, ← List.getD_eq_getElem?_getD]
      rcases ih with ih | ⟨j, h1, h2, h3⟩
      · exact .inl ih
      · exact .inr ⟨j, by omega, h2, h3⟩
end Go.Proofs.Ytdaonhgcejjlhaa.P
