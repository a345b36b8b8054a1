/- ScriptIdempotent, the plain law. -/
import Derived.Test.YtcnclgneldonfaaDoorPx42
import Derived.Test.YtcnclgneldonfaaDoorSa
import Derived.Test.YtcnclgneldonfaaDoorPl
namespace Go.Proofs.YtcnclgneldonfaaDoor.P
open Go Go.RowKit Go.Proofs.YtcnclgneldonfaaDoorW.PrintWords Go.Proofs.YtcnclgneldonfaaDoorW.PrintLast Go.Proofs.YtcnclgneldonfaaDoorW.PrintMore
set_option linter.unusedVariables false
set_option linter.unusedSimpArgs false
theorem idem_l0 (l p : List S26) (t : Int) (ht : t ≤ 1000) (hp : p.length ≤ 1000) (hpl : p.length ≤ l.length) (hgp : good t p) (hf : ∀ q ∈ p, q.f3.length ≤ 80) : ∀ d i k : Nat, i + d = p.length → good t (p.drop i) → d + 90000 ≤ k → hallmootlaw27_ScriptIdempotent.l0 k l true t p (i : Int) = some true
  | 0, i, k, hi, hg, hk => by
    obtain ⟨k, rfl⟩ : ∃ x, k = x + 1 := ⟨k - 1, by omega⟩
    have hw := wt_le p 80 hf
    have hw2 : p.length * 83 ≤ 1000 * 83 := Nat.mul_le_mul_right _ hp
    simp only [hallmootlaw27_ScriptIdempotent.l0]
    rw [if_neg (by omega), if_pos trivial, plain_f t p (by omega) (by omega), Option.bind_some, plO_self t p 0 (fun _ => 0) hgp (fun _ => Int.le_refl _), same_f p p (by omega) (fun q hq => by have := hf q hq; omega) k (by omega), Option.bind_some]
    simp [hpl]
  | d + 1, i, k, hi, hg, hk => by
    obtain ⟨k, rfl⟩ : ∃ x, k = x + 1 := ⟨k - 1, by omega⟩
    have h1 : i < p.length := by omega
    rw [List.drop_eq_getElem_cons h1] at hg
    obtain ⟨hr, h⟩ := hg
    simp only [hallmootlaw27_ScriptIdempotent.l0]
    rw [if_pos (by omega), if_pos (by omega), rd26 p i h1, right_f _ _ _ _ _ k (by omega), Option.bind_some, show rightB t p[i].f0 p[i].f1 p[i].f2 p[i].f3 = true from hr, if_pos rfl]
    rcases h with ⟨h1', hg'⟩ | ⟨h3, hnil⟩
    · rw [if_neg (by omega), if_neg (by omega), w64 (by omega) (by omega), show (i : Int) + 1 = ((i + 1 : Nat) : Int) by omega]
      exact idem_l0 l p t ht hp hpl hgp hf d (i + 1) k (by omega) hg' (by omega)
    · have hlast : i + 1 = p.length := by
        have := congrArg List.length hnil
        rw [List.length_drop, List.length_nil] at this
        omega
      rw [if_neg (by omega), if_pos h3, w64 (n := (p.length : Int) - 1) (by omega) (by omega), if_neg (by omega), w64 (by omega) (by omega), show (i : Int) + 1 = ((i + 1 : Nat) : Int) by omega]
      exact idem_l0 l p t ht hp hpl hgp hf d (i + 1) k (by omega) (by rw [hnil]; trivial) (by omega)
theorem tmod5 {a : Int} (h : (Lit.int .u8 a).wf = true) (m : Int) (hm : 0 < m) (hm2 : m ≤ 1000) : 0 ≤ wrap64 (Int.tmod a m) ∧ wrap64 (Int.tmod a m) < m := by
  have h0 := u8_range h
  rw [Int.tmod_eq_emod_of_nonneg (by omega)]
  have h1 := Int.emod_nonneg a (show m ≠ 0 by omega)
  have h2 := Int.emod_lt_of_pos a hm
  rw [w64 (by omega) (by omega)]
  exact ⟨h1, h2⟩
end Go.Proofs.YtcnclgneldonfaaDoor.P
namespace Go.Proofs.YtcnclgneldonfaaDoor.Pure
open Go Go.RowKit Go.Proofs.YtcnclgneldonfaaDoor.P
theorem ScriptIdempotent (a : Int) (l : List S26) (w : (Lit.int .u8 a).wf = true) : ∃ k, hallmootlaw27_ScriptIdempotent.f k a l = some true := by
  refine ⟨100000, ?_⟩
  unfold hallmootlaw27_ScriptIdempotent.f
  rw [sanity_up 100000 (by omega), Option.bind_some, few_f l (fun h => by omega), Option.bind_some]
  cases hF : fewB l with
  | false => rfl
  | true =>
    obtain ⟨hl, hf⟩ := few_iff.1 hF
    have ht := tmod5 w 5 (by decide) (by decide)
    rw [if_pos rfl]
    generalize wrap64 (Int.tmod a 5) = t at *
    rw [plain_f t l (by omega) (by omega), Option.bind_some]
    have hlen := plO_len t l 0 (fun _ => 0)
    exact idem_l0 l _ t (by omega) (by omega) hlen (plO_good t l 0 _) (fun q hq => hf q (plO_mem t l 0 _ q hq)) _ 0 100000 (Nat.zero_add _) (plO_good t l 0 _) (by omega)
end Go.Proofs.YtcnclgneldonfaaDoor.Pure
