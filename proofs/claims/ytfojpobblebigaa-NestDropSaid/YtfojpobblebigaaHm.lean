/- A row of compensations, reversed. -/
import Derived.Test.YtfojpobblebigaaHl
namespace Go.Proofs.Ytfojpobblebigaa.P
open Go.RowKit Go.Proofs.YtfojpobblebigaaW.PrintWords Go.Proofs.YtfojpobblebigaaW.PrintLast Go.Proofs.YtfojpobblebigaaW.PrintMore
set_option linter.unusedVariables false
set_option linter.unusedSimpArgs false

theorem N50_D {W : World} {base g cap : Nat} {ok : Nat → Prop} {us : List S50} (h : Kd.N k50 50 W base ok (.slice (some ⟨g, 0, none⟩) us.length cap) us) :
    ∃ D : Nat → S50 × Option Addr × Nat, (∀ j, j < us.length → Kd.FK k50 W (fun k => ok k ∧ k ≠ g) (us.getD j z50) (e5 (D j))) ∧ RevAt W g cap us.length D 0 ∧ base ≤ g ∧ us.length ≤ cap ∧ cap ≤ maxLen := by
  obtain ⟨h0, rows, hl, ⟨_, inner, ho, hr⟩, hf⟩ := h
  have key : ∀ j, ∃ p : Option Addr × Nat, j < us.length → rows[j]? = some (e5 (us.getD j z50, p)) ∧ Kd.FK k50 W (fun k => ok k ∧ k ≠ g) (us.getD j z50) (e5 (us.getD j z50, p)) := fun j => by
    by_cases hj : j < us.length
    · have hx : us[j]? = some (us.getD j z50) := by rw [List.getD_eq_getElem?_getD, List.getElem?_eq_getElem hj]; rfl
      have hc := List.getElem?_eq_getElem (l := rows) (i := j) (by omega)
      have hk := hf j _ _ hx hc
      obtain ⟨A3, c3, he, _⟩ := k50_open (Kd.FK_now hk)
      refine ⟨(A3, c3), fun _ => ⟨?_, ?_⟩⟩
      · rw [hc, he]; rfl
      · rw [he] at hk
        exact Kd.FK_mono hk (fun k hk => ⟨hk.1, fun e => hk.2 (by rw [e]; rfl)⟩)
    · exact ⟨(none, 0), fun h => absurd h hj⟩
  obtain ⟨P, hP⟩ := Classical.skolem.1 key
  obtain ⟨h1, h2⟩ := ho
  rcases h2 with ⟨hv, _⟩ | ⟨g', c', cur, hv, hg, hh, hn, hc, hs, ht⟩
  · cases hv
  · injection hv with ha _ hcc
    injection ha with ha
    injection ha with ha
    subst ha; subst hcc
    have hs5 : cur.size = cap * 5 := hs
    have ht5 : cur.toList.take (rows.length * 5) = inner := ht
    refine ⟨fun j => (us.getD j z50, P j), fun j hj => (hP j hj).2, ⟨cur, hh, hs5, fun j hj q hq => ?_⟩, hg, by omega, hc⟩
    rw [if_neg (by omega)]
    have q1 : (inner.drop (j * 5)).take 5 = e5 (us.getD j z50, P j) := (hr.2 j _ (hP j hj).1).1
    rw [← q1, List.getElem?_take, if_pos hq, List.getElem?_drop, ← ht5, List.getElem?_take, if_pos (by omega), Array.getElem?_toList]
theorem chunk5 {L : Array Value} {n j : Nat} {p : List Value} (hp : p.length = 5) (hj : j < n) (h : ∀ q, q < 5 → L[j * 5 + q]? = p[q]?) : ((L.toList.take (n * 5)).drop (j * 5)).take 5 = p := by
  refine List.ext_getElem? fun q => ?_
  by_cases hq : q < 5
  · rw [List.getElem?_take, if_pos hq, List.getElem?_drop, List.getElem?_take, if_pos (by omega), Array.getElem?_toList]
    exact h q hq
  · rw [List.getElem?_take, if_neg hq, List.getElem?_eq_none (by omega)]
theorem e5_one (d : S50 × Option Addr × Nat) : ∀ u ∈ e5 d, u.oneCell' = true := by
  intro u hu
  simp only [e5, List.mem_cons, List.not_mem_nil, or_false] at hu
  rcases hu with rfl | rfl | rfl | rfl | rfl <;> rfl
theorem N50_rev {W w' : World} {base g cap i : Nat} {ok : Nat → Prop} {us : List S50} {D : Nat → S50 × Option Addr × Nat} (h0 : ok g) (hf : ∀ j, j < us.length → Kd.FK k50 W (fun k => ok k ∧ k ≠ g) (us.getD j z50) (e5 (D j)))
    (hg : base ≤ g) (hn : us.length ≤ cap) (hc : cap ≤ maxLen) (hR : RevAt w' g cap us.length D i) (hi : us.length - 1 - i ≤ i) (hin : i ≤ us.length) (hK : KeepBut W w' g none) :
    Kd.N k50 50 w' base ok (.slice (some ⟨g, 0, none⟩) us.length cap) us.reverse := by
  obtain ⟨cur, hb, hs, hcc⟩ := hR
  have hrl : ((List.range us.length).map fun j => e5 (D (us.length - 1 - j))).length = us.length := by simp
  refine ⟨fun k hk => by simp [Value.ownBlock] at hk; subst hk; exact h0, (List.range us.length).map fun j => e5 (D (us.length - 1 - j)), by simp, ⟨fun k hk => hk.symm, cur.toList.take (us.length * 5), ⟨?_, .inr ⟨g, cap, cur, by rw [hrl], hg, hb, by rw [hrl]; exact hn, hc, hs, by rw [hrl]; rfl⟩⟩, ⟨?_, fun j p hj => ?_⟩⟩, fun j x c hx hc0 => ?_⟩
  · rw [hrl, List.length_take, (Array.length_toList (xs := cur)).trans hs]
    exact Nat.min_eq_left (Nat.mul_le_mul_right _ hn)
  · rw [hrl, List.length_take, (Array.length_toList (xs := cur)).trans hs]
    exact Nat.min_eq_left (Nat.mul_le_mul_right _ hn)
  · rw [List.getElem?_map] at hj
    rcases Nat.lt_or_ge j us.length with hjl | hjl
    · rw [List.getElem?_range hjl] at hj
      obtain rfl := Option.some.inj hj
      have e := chunk5 (L := cur) (n := us.length) (j := j) (p := e5 (D (us.length - 1 - j))) rfl hjl (fun q hq => by
        rw [hcc j hjl q hq]
        congr 3
        by_cases h9 : j < i ∨ us.length ≤ j + i
        · rw [if_pos h9]
        · rw [if_neg h9]; omega)
      exact ⟨e, by rw [show (Kd.raw k50.sz).sz = 5 from rfl, e]; rfl, by rw [show (Kd.raw k50.sz).sz = 5 from rfl, e]; exact e5_one _⟩
    · rw [List.getElem?_eq_none (by simpa using hjl)] at hj
      cases hj
  · rw [List.getElem?_map] at hc0
    have hjl : j < us.length := by have := (List.getElem?_eq_some_iff.1 hx).1; simpa using this
    rw [List.getElem?_range hjl] at hc0
    obtain rfl := Option.some.inj hc0
    rw [List.getElem?_reverse hjl] at hx
    have hx2 : us.getD (us.length - 1 - j) z50 = x := by rw [List.getD_eq_getElem?_getD, hx]; rfl
    have := hf (us.length - 1 - j) (by omega)
    rw [hx2] at this
    exact Kd.FK_mono (Kd.FK_step this (fun k hk hlt => hK.2 k hlt hk.2 (by simp))) (fun k hk => ⟨hk.1, fun e => hk.2 (by simpa [Value.ownBlock] using e)⟩)
end Go.Proofs.Ytfojpobblebigaa.P
