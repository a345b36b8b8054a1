/- The plain statement of LexShow: both texts join the spellings by single spaces. -/
import Derived.Test.YtphlbjpefnjjnaaDoorLy
import Derived.Test.YtphlbjpefnjjnaaDoorPx70
namespace Go.Proofs.YtphlbjpefnjjnaaDoor.Pure
set_option linter.unusedVariables false
open Go Go.RowKit Go.Proofs.YtphlbjpefnjjnaaDoor.P Go.Proofs.YtphlbjpefnjjnaaDoorW.PrintWords Go.Proofs.YtphlbjpefnjjnaaDoorW.PrintLast
theorem showL_snoc : ∀ (l : List S30) (t : S30), showL (l ++ [t]) = if l = [] then t.f1.data.toList else showL l ++ 32 :: t.f1.data.toList
  | [], t => showL_one t
  | [u], t => by
    rw [if_neg (by simp), List.singleton_append, showL_cons, showL_one, showL_one]
  | u :: v :: r, t => by
    rw [if_neg (by simp), List.cons_append, List.cons_append, showL_cons, ← List.cons_append, showL_snoc (v :: r) t, if_neg (by simp), showL_cons]
    simp
theorem rd30 (l : List S30) (i : Nat) (h : i < l.length) : rd_T30 l (i : Int) = l[i] := by
  simp [rd_T30, List.getD_eq_getElem?_getD, h]
theorem ba_mk (a b : List UInt8) : (⟨a.toArray⟩ : ByteArray) ++ (⟨b.toArray⟩ : ByteArray) = ⟨(a ++ b).toArray⟩ := by
  apply ba_ext
  rw [ByteArray.data_append]
  simp
theorem ba_self (x : ByteArray) : x = ⟨x.data.toList.toArray⟩ := by apply ba_ext; simp
theorem show_loop (l : List S30) (hl : l.length ≤ 100) (hs : ∀ (i : Nat) (h : i < l.length), (l[i]).f1.size ≤ 100) (d : Nat) : ∀ (i k : Nat), i + d = l.length → d < k → (showL (l.take i)).length ≤ 101 * i →
    hallmootref04_Show.l0 k l ⟨(showL (l.take i)).toArray⟩ (i : Int) = some ⟨(showL l).toArray⟩ := by
  induction d with
  | zero =>
    intro i k hi hk hb
    obtain ⟨k, rfl⟩ : ∃ m, k = m + 1 := ⟨k - 1, by omega⟩
    simp only [hallmootref04_Show.l0]
    rw [if_neg (by omega), List.take_of_length_le (by omega)]
  | succ d ih =>
    intro i k hi hk hb
    obtain ⟨k, rfl⟩ : ∃ m, k = m + 1 := ⟨k - 1, by omega⟩
    have hlt : i < l.length := by omega
    simp only [hallmootref04_Show.l0]
    have hsz := hs i hlt
    have htake : l.take (i + 1) = l.take i ++ [l[i]] := List.take_succ_eq_append_getElem hlt
    have hsl : (l[i]).f1.data.toList.length = (l[i]).f1.size := sizeL _
    rw [if_pos (by omega), rd30 l i hlt, size_mk, w64 (n := (i : Int) + 1) (by omega) (by omega), show (i : Int) + 1 = ((i + 1 : Nat) : Int) by omega]
    by_cases h0 : (i : Int) > 0
    · have hne : l.take i ≠ [] := by intro e; have := congrArg List.length e; rw [List.length_take, List.length_nil] at this; omega
      have hsn := showL_snoc (l.take i) l[i]
      rw [if_neg hne, ← htake] at hsn
      have hlen : (showL (l.take (i + 1))).length ≤ 101 * (i + 1) := by
        rw [hsn, List.length_append, List.length_cons]
        omega
      rw [if_pos h0, if_pos (by omega), if_pos (by omega)]
      have hcat : ((⟨(showL (l.take i)).toArray⟩ : ByteArray) ++ (⟨#[32]⟩ : ByteArray)) ++ (l[i]).f1 = ⟨(showL (l.take (i + 1))).toArray⟩ := by
        rw [hsn, show (⟨#[32]⟩ : ByteArray) = ⟨([32] : List UInt8).toArray⟩ from rfl, ba_mk, ba_self (l[i]).f1, ba_mk]
        simp
      rw [hcat]
      have hsz2 : ((⟨(showL (l.take i)).toArray⟩ : ByteArray) ++ (⟨#[32]⟩ : ByteArray)).size + (l[i]).f1.size ≤ 9223372036854775807 := by
        rw [show (⟨#[32]⟩ : ByteArray) = ⟨([32] : List UInt8).toArray⟩ from rfl, ba_mk, size_mk, List.length_append, List.length_singleton]
        omega
      rw [if_pos hsz2]
      exact ih (i + 1) k (by omega) (by omega) hlen
    · obtain rfl : i = 0 := by omega
      have hsn := showL_snoc (l.take 0) l[0]
      rw [if_pos (by simp), ← htake] at hsn
      have hlen : (showL (l.take (0 + 1))).length ≤ 101 * (0 + 1) := by rw [hsn]; omega
      have he : (showL (l.take 0)) = [] := rfl
      rw [if_neg h0, if_pos (by omega), he]
      have hcat : (⟨([] : List UInt8).toArray⟩ : ByteArray) ++ (l[0]).f1 = ⟨(showL (l.take (0 + 1))).toArray⟩ := by
        rw [hsn, ba_self (l[0]).f1, ba_mk]
        simp
      rw [hcat, if_pos (by simp; omega)]
      exact ih (0 + 1) k (by omega) (by omega) hlen
theorem ref_show (l : List S30) (hl : l.length ≤ 100) (hs : ∀ (i : Nat) (h : i < l.length), (l[i]).f1.size ≤ 100) (k : Nat) (hk : l.length < k) : hallmootref04_Show.f k l = some ⟨(showL l).toArray⟩ := by
  unfold hallmootref04_Show.f
  exact show_loop l hl hs l.length 0 k (by omega) hk (by simp [showL, Lib.join, List.intercalate])
theorem showL_bound (l : List S30) (hl : l.length ≤ 100) (hs : ∀ (i : Nat) (h : i < l.length), (l[i]).f1.size ≤ 100) : (showL l).length ≤ 10100 := by
  have key : ∀ i, i ≤ l.length → (showL (l.take i)).length ≤ 101 * i := by
    intro i
    induction i with
    | zero => intro _; simp [showL, Lib.join, List.intercalate]
    | succ i ih =>
      intro hi
      have hlt : i < l.length := by omega
      rw [List.take_succ_eq_append_getElem hlt, showL_snoc]
      have h1 := ih (by omega)
      have h2 := hs i hlt
      have h3 : (l[i]).f1.data.toList.length = (l[i]).f1.size := sizeL _
      split
      · omega
      · rw [List.length_append, List.length_cons]; omega
  have := key l.length (Nat.le_refl _)
  rw [List.take_length] at this
  omega
theorem law_show (l : List S30) (hl : l.length ≤ 100) (d : Nat) : ∀ (i k : Nat), i + d = l.length → d + 120 ≤ k → (∀ (j : Nat) (h : j < l.length), j < i → (l[j]).f1.size ≤ 100) →
    hallmootlaw04_LexShow.l0 k l true (i : Int) = some true := by
  induction d with
  | zero =>
    intro i k hi hk hs
    obtain ⟨k, rfl⟩ : ∃ m, k = m + 1 := ⟨k - 1, by omega⟩
    simp only [hallmootlaw04_LexShow.l0]
    have hs' : ∀ (j : Nat) (h : j < l.length), (l[j]).f1.size ≤ 100 := fun j h => hs j h (by omega)
    rw [if_neg (by omega), if_pos trivial, ref_show l hl hs' k (by omega)]
    have hb := showL_bound l hl hs'
    unfold lex_Show.f
    rw [if_pos ⟨by omega, by omega⟩]
    simp
  | succ d ih =>
    intro i k hi hk hs
    obtain ⟨k, rfl⟩ : ∃ m, k = m + 1 := ⟨k - 1, by omega⟩
    have hlt : i < l.length := by omega
    simp only [hallmootlaw04_LexShow.l0]
    rw [if_pos (by omega), if_pos (by omega), rd30 l i hlt]
    by_cases h : ((l[i]).f1.size : Int) > 100
    · rw [if_pos h]
    · rw [if_neg h, w64 (n := (i : Int) + 1) (by omega) (by omega), show (i : Int) + 1 = ((i + 1 : Nat) : Int) by omega]
      refine ih (i + 1) k (by omega) (by omega) (fun j hj hji => ?_)
      by_cases e : j = i
      · subst e; omega
      · exact hs j hj (by omega)
theorem LexShow (l0 : List S30) : ∃ k, hallmootlaw04_LexShow.f k l0 = some true := by
  refine ⟨1000, ?_⟩
  unfold hallmootlaw04_LexShow.f
  rw [sanity_eq _ (by omega)]
  simp only [Option.bind_some]
  by_cases h : (l0.length : Int) > 100
  · rw [if_pos h]
  · rw [if_neg h]
    exact law_show l0 (by omega) l0.length 0 1000 (by omega) (by omega) (fun j _ hj => absurd hj (by omega))
end Go.Proofs.YtphlbjpefnjjnaaDoor.Pure
