/- ScriptFair, the plain law. -/
import Derived.Test.YtcnclgneldonfaaDoorPx27
import Derived.Test.YtcnclgneldonfaaDoorSa
import Derived.Test.YtcnclgneldonfaaDoorNx
namespace Go.Proofs.YtcnclgneldonfaaDoor.P
open Go Go.RowKit Go.Proofs.YtcnclgneldonfaaDoorW.PrintWords Go.Proofs.YtcnclgneldonfaaDoorW.PrintLast Go.Proofs.YtcnclgneldonfaaDoorW.PrintMore
set_option linter.unusedVariables false
set_option linter.unusedSimpArgs false
/-- A turn about leaves the number of those that are on. -/
theorem onAt_turn (l : List Bool) (f : Nat) (hf : f < l.length) : (List.range l.length).countP (onAt l f) = (List.range l.length).countP (onAt l 0) := by
  obtain ⟨n, hn⟩ : ∃ n, l.length = n := ⟨_, rfl⟩
  rw [hn]
  have e1 : List.range n = List.range (n - f) ++ (List.range f).map ((n - f) + ·) := by rw [← List.range_add]; congr 1; omega
  have e2 : List.range n = List.range f ++ (List.range (n - f)).map (f + ·) := by rw [← List.range_add]; congr 1; omega
  have h1 : (List.range n).countP (onAt l f) = (List.range (n - f)).countP (onAt l f) + (List.range f).countP (fun e => onAt l f (n - f + e)) := by
    rw [e1, List.countP_append, List.countP_map]; rfl
  have h2 : (List.range n).countP (onAt l 0) = (List.range f).countP (onAt l 0) + (List.range (n - f)).countP (fun e => onAt l 0 (f + e)) := by
    rw [e2, List.countP_append, List.countP_map]; rfl
  have h3 : (List.range f).countP (fun e => onAt l f (n - f + e)) = (List.range f).countP (onAt l 0) := by
    refine List.countP_congr (fun e he => ?_)
    have := List.mem_range.1 he
    unfold onAt
    rw [hn, show f + (n - f + e) = e + n by omega, Nat.add_mod_right, Nat.zero_add]
  have h4 : (List.range (n - f)).countP (fun e => onAt l 0 (f + e)) = (List.range (n - f)).countP (onAt l f) := by
    refine List.countP_congr (fun e he => ?_)
    unfold onAt
    rw [Nat.zero_add]
  rw [h1, h2, h3, h4]
  omega
theorem live_count (l : List Bool) : l.countP id = (List.range l.length).countP (onAt l 0) := by
  have : l = (List.range l.length).map (onAt l 0) := by
    apply List.ext_getElem
    · simp
    · intro i h1 h2
      rw [List.getElem_map, List.getElem_range]
      unfold onAt
      rw [Nat.zero_add, Nat.mod_eq_of_lt h1, List.getD_eq_getElem?_getD, List.getElem?_eq_getElem h1]
      rfl
  conv => lhs; rw [this]
  rw [List.countP_map]
  rfl
/-- What Next finds from a thread that is on. -/
theorem nx_step (l : List Bool) (f d : Nat) (hf : f < l.length) (hd : d < l.length) (h0 : onAt l f 0 = true) :
    (∃ d', d < d' ∧ d' < l.length ∧ onAt l f d' = true ∧ (∀ e, d < e → e < d' → onAt l f e = false) ∧ nx l (((f + d) % l.length : Nat) : Int) = (((f + d') % l.length : Nat) : Int)) ∨
    ((∀ e, d < e → e < l.length → onAt l f e = false) ∧ nx l (((f + d) % l.length : Nat) : Int) = (f : Int)) := by
  have hm : (f + d) % l.length < l.length := Nat.mod_lt _ (by omega)
  have hb : nb l (((f + d) % l.length : Nat) : Int) = (f + d) % l.length + 1 := by
    unfold nb; rw [if_neg (by omega), Int.toNat_natCast]
  have hon : ∀ j, onAt l ((f + d) % l.length + 1) j = onAt l f (d + 1 + j) := fun j => by
    unfold onAt
    congr 1
    rw [show (f + d) % l.length + 1 + j = (f + d) % l.length + (1 + j) by omega, Nat.mod_add_mod]
    congr 1
    omega
  unfold nx
  rw [hb]
  cases hfd : (List.range l.length).find? (onAt l ((f + d) % l.length + 1)) with
  | none =>
    exfalso
    have := List.find?_eq_none.1 hfd (l.length - 1 - d) (List.mem_range.2 (by omega))
    rw [hon, show d + 1 + (l.length - 1 - d) = l.length by omega] at this
    unfold onAt at this h0
    rw [Nat.add_mod_right] at this
    rw [Nat.add_zero] at h0
    exact this h0
  | some j =>
    obtain ⟨h1, i, hi, hij, hlt⟩ := List.find?_eq_some_iff_getElem.1 hfd
    rw [List.length_range] at hi
    rw [List.getElem_range] at hij
    subst hij
    rw [hon] at h1
    have hmin : ∀ e, d < e → e < d + 1 + i → onAt l f e = false := fun e he1 he2 => by
      have := hlt (e - (d + 1)) (by omega)
      rw [List.getElem_range, hon, show d + 1 + (e - (d + 1)) = e by omega] at this
      simpa using this
    have hres : nxR l ((f + d) % l.length + 1) (some i) = (((f + (d + 1 + i)) % l.length : Nat) : Int) := by
      show (((( f + d) % l.length + 1 + i) % l.length : Nat) : Int) = _
      congr 1
      rw [show (f + d) % l.length + 1 + i = (f + d) % l.length + (1 + i) by omega, Nat.mod_add_mod]
      congr 1
      omega
    rw [hres]
    by_cases hw : d + 1 + i < l.length
    · exact .inl ⟨d + 1 + i, by omega, hw, h1, hmin, rfl⟩
    · refine .inr ⟨fun e he1 he2 => hmin e he1 (by omega), ?_⟩
      have : d + 1 + i = l.length := by
        by_cases hx : d + 1 + i = l.length
        · exact hx
        · have := hmin l.length hd (by omega)
          unfold onAt at this h0
          rw [Nat.add_mod_right] at this
          rw [Nat.add_zero] at h0
          rw [h0] at this
          cases this
      rw [this, Nat.add_mod_right, Nat.mod_eq_of_lt hf]
/-- The round: every thread that is on once. -/
theorem fair_l1 (l : List Bool) (hl : l.length ≤ 40) (f : Nat) (hf : f < l.length) (h0 : onAt l f 0 = true) (live : Nat) (hlive : live = (List.range l.length).countP (onAt l f)) :
    ∀ m d i k : Nat, ∀ met : List Bool, i + m = live → 1 ≤ m → d < l.length → onAt l f d = true → (List.range d).countP (onAt l f) = i → met.length = l.length → (∀ e, d ≤ e → e < l.length → met.getD ((f + e) % l.length) false = false) → 2 * m + 50 ≤ k →
      hallmootlaw27_ScriptFair.l1 k l true (live : Int) met (((f + d) % l.length : Nat) : Int) (f : Int) (i : Int) = some true
  | 0, d, i, k, met, _, hm, _, _, _, _, _, _ => absurd hm (by omega)
  | m + 1, d, i, k, met, him, _, hd, hon, hc, hml, hmet, hk => by
    obtain ⟨k, rfl⟩ : ∃ j, k = j + 2 := ⟨k - 2, by omega⟩
    have hlt : (f + d) % l.length < l.length := Nat.mod_lt _ (by omega)
    have hll : live ≤ l.length := by rw [hlive]; have := List.countP_le_length (p := onAt l f) (l := List.range l.length); rwa [List.length_range] at this
    have e1 : rdOf false l (((f + d) % l.length : Nat) : Int) = true := by unfold rdOf; rw [Int.toNat_natCast]; exact hon
    have e2 : rdOf false met (((f + d) % l.length : Nat) : Int) = false := by unfold rdOf; rw [Int.toNat_natCast]; exact hmet d (Nat.le_refl _) hd
    simp only [hallmootlaw27_ScriptFair.l1]
    rw [if_pos (by omega), if_neg (by omega), decide_eq_false (by omega)]
    simp only [hallmootlaw27_ScriptFair.j2, Bool.false_eq_true, if_false]
    rw [if_pos (by omega), if_pos (by omega), e1, if_pos rfl, if_pos (by omega), e2, if_neg (by decide), next_f l (by omega) _ k (by omega), Option.bind_some, w64 (by omega) (by omega), Int.toNat_natCast, show (i : Int) + 1 = ((i + 1 : Nat) : Int) by omega]
    have hcs : ∀ d', d < d' → d' ≤ l.length → (∀ e, d < e → e < d' → onAt l f e = false) → (List.range d').countP (onAt l f) = i + 1 := fun d' h1 h2 h3 => by
      have : List.range d' = List.range (d + 1) ++ (List.range (d' - (d + 1))).map ((d + 1) + ·) := by rw [← List.range_add]; congr 1; omega
      rw [this, List.countP_append, List.range_succ, List.countP_append, hc, List.countP_map]
      have hz : (List.range (d' - (d + 1))).countP ((onAt l f) ∘ ((d + 1) + ·)) = 0 := by
        rw [List.countP_eq_zero]
        intro e he
        have := List.mem_range.1 he
        show ¬ onAt l f (d + 1 + e) = true
        rw [h3 (d + 1 + e) (by omega) (by omega)]
        decide
      rw [hz]
      simp [hon]
    rcases nx_step l f d hf hd h0 with ⟨d', h1, h2, h3, h4, h5⟩ | ⟨h4, h5⟩
    · rw [h5]
      have hci := hcs d' h1 (by omega) h4
      have hmore : i + 2 ≤ live := by
        have : List.range l.length = List.range (d' + 1) ++ (List.range (l.length - (d' + 1))).map ((d' + 1) + ·) := by rw [← List.range_add]; congr 1; omega
        rw [hlive, this, List.countP_append, List.range_succ, List.countP_append, hci]
        simp [h3]
      refine fair_l1 l hl f hf h0 live hlive m d' (i + 1) k _ (by omega) (by omega) h2 h3 hci (by rw [List.length_set]; exact hml) (fun e he1 he2 => ?_) (by omega)
      rw [List.getD_eq_getElem?_getD, List.getElem?_set_ne, ← List.getD_eq_getElem?_getD]
      · exact hmet e (by omega) he2
      · intro he
        have h6 : (f + d) % l.length = (f + e) % l.length := he
        have h7 : ∀ x, x < l.length → (f + x) % l.length = if f + x < l.length then f + x else f + x - l.length := fun x hx => by
          split
          · exact Nat.mod_eq_of_lt (by omega)
          · rw [Nat.mod_eq_sub_mod (by omega)]
            exact Nat.mod_eq_of_lt (by omega)
        rw [h7 d hd, h7 e he2] at h6
        split at h6 <;> split at h6 <;> omega
    · rw [h5]
      have hci := hcs l.length hd (Nat.le_refl _) h4
      have hm0 : m = 0 := by omega
      subst hm0
      obtain ⟨k, rfl⟩ : ∃ j, k = j + 1 := ⟨k - 1, by omega⟩
      simp only [hallmootlaw27_ScriptFair.l1]
      rw [if_neg (by omega)]
      simp
theorem fair_l0 (l : List Bool) (hl : l.length ≤ 40) (a : Int) : ∀ d i k : Nat, i + d = l.length → d + 200 ≤ k → hallmootlaw27_ScriptFair.l0 k l a true ((l.take i).countP id : Nat) (i : Int) = some true
  | 0, i, k, hi, hk => by
    obtain ⟨k, rfl⟩ : ∃ j, k = j + 1 := ⟨k - 1, by omega⟩
    have hi' : i = l.length := by omega
    subst hi'
    rw [List.take_length]
    simp only [hallmootlaw27_ScriptFair.l0]
    rw [if_neg (by omega), if_pos (by omega), if_pos (by omega), next_f l (by omega) a k (by omega), Option.bind_some]
    by_cases hz : l.countP id = 0
    · rw [if_pos (by omega)]
      have hn : (List.range l.length).find? (onAt l (nb l a)) = none := by
        rw [List.find?_eq_none]
        intro j hj
        have hj' := List.mem_range.1 hj
        have hlt : (nb l a + j) % l.length < l.length := Nat.mod_lt _ (by omega)
        have := List.countP_eq_zero.1 hz l[(nb l a + j) % l.length] (List.getElem_mem _)
        unfold onAt
        rw [List.getD_eq_getElem?_getD, List.getElem?_eq_getElem hlt]
        simpa using this
      unfold nx
      rw [hn]
      rfl
    · rw [if_neg (by omega)]
      obtain ⟨x, hx, hxt⟩ := List.countP_pos_iff.1 (show 0 < l.countP id by omega)
      obtain ⟨p, hp, rfl⟩ := List.getElem_of_mem hx
      have hpos : 0 < l.length := by omega
      cases hfd : (List.range l.length).find? (onAt l (nb l a)) with
      | none =>
        exfalso
        have hb : nb l a ≤ l.length := by unfold nb; split <;> omega
        have hj : ∃ j, j < l.length ∧ (nb l a + j) % l.length = p := by
          by_cases hle : nb l a ≤ p
          · exact ⟨p - nb l a, by omega, by rw [show nb l a + (p - nb l a) = p by omega, Nat.mod_eq_of_lt hp]⟩
          · exact ⟨p + l.length - nb l a, by omega, by rw [show nb l a + (p + l.length - nb l a) = p + l.length by omega, Nat.add_mod_right, Nat.mod_eq_of_lt hp]⟩
        obtain ⟨j, hj1, hj2⟩ := hj
        have := List.find?_eq_none.1 hfd j (List.mem_range.2 hj1)
        unfold onAt at this
        rw [hj2, List.getD_eq_getElem?_getD, List.getElem?_eq_getElem hp] at this
        exact this hxt
      | some j =>
        have hon := List.find?_some hfd
        obtain ⟨f, hfe⟩ : ∃ f, (nb l a + j) % l.length = f := ⟨_, rfl⟩
        have hf : f < l.length := by rw [← hfe]; exact Nat.mod_lt _ hpos
        have hnx : nx l a = (f : Int) := by unfold nx; rw [hfd]; show (((nb l a + j) % l.length : Nat) : Int) = _; rw [hfe]
        have h0 : onAt l f 0 = true := by
          unfold onAt at hon ⊢
          rw [hfe] at hon
          rw [Nat.add_zero, Nat.mod_eq_of_lt hf]
          exact hon
        have hlive : l.countP id = (List.range l.length).countP (onAt l f) := by rw [onAt_turn l f hf, live_count]
        have hle : l.countP id ≤ l.length := List.countP_le_length
        have := fair_l1 l hl f hf h0 (l.countP id) hlive (l.countP id) 0 0 k (List.replicate l.length false) (by omega) (by omega) hpos h0 rfl (by simp) (fun e _ he => by
          rw [List.getD_eq_getElem?_getD, List.getElem?_replicate]
          split <;> rfl) (by omega)
        rw [hnx, Int.toNat_natCast]
        rw [Nat.add_zero, Nat.mod_eq_of_lt hf] at this
        exact this
  | d + 1, i, k, hi, hk => by
    obtain ⟨k, rfl⟩ : ∃ j, k = j + 1 := ⟨k - 1, by omega⟩
    have hlt : i < l.length := by omega
    have hcl : (l.take i).countP id ≤ 40 := by
      have := List.countP_le_length (p := id) (l := l.take i)
      rw [List.length_take] at this
      omega
    have hrd : rdOf false l (i : Int) = l[i] := by unfold rdOf; rw [Int.toNat_natCast, List.getD_eq_getElem?_getD, List.getElem?_eq_getElem hlt]; rfl
    have ht : (l.take (i + 1)).countP id = (l.take i).countP id + if l[i] = true then 1 else 0 := by
      rw [List.take_succ_eq_append_getElem hlt, List.countP_append]
      cases l[i] <;> rfl
    have ih := fair_l0 l hl a d (i + 1) k (by omega) (by omega)
    simp only [hallmootlaw27_ScriptFair.l0]
    rw [if_pos (by omega), if_pos (by omega), hrd, w64 (n := (i : Int) + 1) (by omega) (by omega), show (i : Int) + 1 = ((i + 1 : Nat) : Int) by omega]
    rw [ht] at ih
    by_cases ho : l[i] = true
    · rw [if_pos ho] at ih ⊢
      rw [w64 (by omega) (by omega)]
      exact ih
    · rw [if_neg ho] at ih ⊢
      exact ih
end Go.Proofs.YtcnclgneldonfaaDoor.P
namespace Go.Proofs.YtcnclgneldonfaaDoor.Pure
open Go Go.Proofs.YtcnclgneldonfaaDoor.P
theorem ScriptFair (l : List Bool) (a : Int) (_ : (Lit.int .i64 a).wf = true) : ∃ k, hallmootlaw27_ScriptFair.f k l a = some true := by
  refine ⟨1000, ?_⟩
  unfold hallmootlaw27_ScriptFair.f
  rw [sanity_up 1000 (by omega), Option.bind_some]
  split
  · rfl
  · exact fair_l0 l (by omega) a l.length 0 1000 (by omega) (by omega)
end Go.Proofs.YtcnclgneldonfaaDoor.Pure
