/- What a reading of an argument gives: a value of its kind, in the printed words' own form (whole numbers, bools, strings, structs, slices of these). -/
import Derived.Test.YtcnclgneldonfaaDoorPx0
import Derived.ChangeArms
import Derived.Deep.Slices
import Derived.DataReads
import Derived.WideShapes
namespace Go.Proofs.YtcnclgneldonfaaDoor.P
open Go.RowKit Go.Deep Go.Proofs.YtcnclgneldonfaaDoorW.PrintWords Go.Proofs.YtcnclgneldonfaaDoorW.PrintLast Go.Proofs.YtcnclgneldonfaaDoorW.PrintMore
set_option linter.unusedVariables false
set_option linter.unusedSimpArgs false
section
variable {H : Type} {enc : TypeId × Value → H} {P : Program} {w : World} {α β γ δ ε : Type}
/-- Every reading of type t is of kind d, and has G. -/
def Opens (enc : TypeId × Value → H) (P : Program) (w : World) (d : Kd α) (G : α → Prop) (t : TypeId) : Prop :=
  ∀ fuel cs x, DataW.trod enc P w 0 (fun _ => true) true fuel t cs = some x → ∃ a, d.K w a cs ∧ G a
theorem opens_int {k : IntKind} {t : TypeId} (ht : P.underlying t = some (.int k)) : Opens enc P w (Kd.int k) (fun n => (Lit.int k n).wf = true) t := fun fuel cs x h => by
  obtain ⟨n, rfl, _, hw⟩ := DataW.trod_int ht h
  exact ⟨n, rfl, hw⟩
theorem opens_bool {t : TypeId} (ht : P.underlying t = some .bool) : Opens enc P w Kd.bool (fun _ => True) t := fun fuel cs x h => by
  obtain ⟨b, rfl, _⟩ := DataW.trod_bool ht h
  exact ⟨b, rfl, trivial⟩
theorem opens_string {t : TypeId} (ht : P.underlying t = some .string) : Opens enc P w Kd.string (fun s => s.size ≤ maxLen) t := fun fuel cs x h => by
  obtain ⟨s, rfl, _, hs⟩ := DataW.trod_string ht h
  exact ⟨s, rfl, hs⟩
theorem opens_slice {d : Kd α} {G : α → Prop} {t e : TypeId} (ht : P.underlying t = some (.slice e)) (hs : P.cellsOf e = d.sz) (hd : Opens enc P w d G e) : Opens enc P w (Kd.slice e d) (fun xs => ∀ x ∈ xs, G x) t := fun fuel cs x h => by
  rcases open_slice ht h with ⟨rfl, _⟩ | ⟨a, len, cap, m, n, D, Pl, rfl, _, hl, hm, hmm, _, hel⟩
  · exact ⟨[], ⟨none, 0, rfl, Nat.le_refl _, rfl, by simp, fun hn => absurd hn (by simp)⟩, fun x hx => by cases hx⟩
  · have hmc : m = cap := by simpa using hmm
    have each : ∀ i : Fin len, ∃ y, (∃ c, d.K w y c ∧ c.length = d.sz ∧ ∀ j u, c[j]? = some u → w.cell? (a.add (i.1 * d.sz + j)) = some u) ∧ G y := by
      intro i
      obtain ⟨cs', h1, h2⟩ := hel i.1 (by have := i.2; omega)
      obtain ⟨y, hK, hG⟩ := hd _ _ _ h2
      obtain ⟨_, hcl, hc⟩ := World.cells?_some h1
      refine ⟨y, ⟨cs', hK, d.K_len hK, fun j u hj => ?_⟩, hG⟩
      have hjl := (List.getElem?_eq_some_iff.1 hj).1
      have h3 := hc j (by omega)
      rw [hj, hs] at h3
      rw [← h3]
      congr 1
      unfold Addr.add
      by_cases z1 : i.1 * d.sz = 0
      · by_cases z2 : j = 0 <;> simp [z1, z2]
      · by_cases z2 : j = 0 <;> simp [z1, z2, Nat.add_assoc]
    obtain ⟨f, hf⟩ := Classical.skolem.1 each
    have hlen : (List.ofFn f).length = len := List.length_ofFn
    refine ⟨List.ofFn f, ⟨some a, cap, by rw [hlen], by rw [hlen]; exact hl, ⟨rfl, by rw [hlen]; unfold maxLen at hm; omega, fun _ => ⟨a, rfl, fun j p hj => ?_⟩⟩⟩, fun x hx => ?_⟩
    · obtain ⟨hj1, hj2⟩ := List.getElem?_eq_some_iff.1 hj
      rw [List.getElem_ofFn] at hj2
      obtain ⟨⟨c, h1, h2, h3⟩, _⟩ := hf ⟨j, by omega⟩
      rw [hj2] at h1
      exact ⟨c, h2, h1, h3⟩
    · obtain ⟨i, rfl⟩ := List.mem_ofFn.1 hx
      exact (hf i).2
theorem opens_iso {d : Kd α} {G : α → Prop} {t : TypeId} (hd : Opens enc P w d G t) (f : β → α) (g : α → β) (hg : ∀ a, f (g a) = a) : Opens enc P w (Kd.iso d f) (fun b => G (f b)) t := fun fuel cs x h => by
  obtain ⟨a, hK, hG⟩ := hd fuel cs x h
  exact ⟨g a, by show d.K w (f (g a)) cs; rw [hg]; exact hK, by show G (f (g a)); rw [hg]; exact hG⟩
theorem opens_weak {d : Kd α} {G G' : α → Prop} {t : TypeId} (hd : Opens enc P w d G t) (h : ∀ a, G a → G' a) : Opens enc P w d G' t := fun fuel cs x hx => by
  obtain ⟨a, hK, hG⟩ := hd fuel cs x hx
  exact ⟨a, hK, h a hG⟩
theorem cut2 (cs : List Value) (a n m : Nat) : (cs.drop a).take (n + m) = (cs.drop a).take n ++ (cs.drop (a + n)).take m := by
  rw [List.take_add, List.drop_drop]
theorem whole (cs : List Value) (n : Nat) (h : cs.length = n) : cs = (cs.drop 0).take n := by rw [List.drop_zero, ← h, List.take_length]
theorem opens_struct2 {d0 : Kd α} {d1 : Kd β} {G0 : α → Prop} {G1 : β → Prop} {t : TypeId} {f0 f1 : Field} (ht : P.underlying t = some (.struct #[f0, f1])) (o0 : f0.offset = 0) (o1 : f1.offset = P.cellsOf f0.type) (hC : P.cellsOf t = P.cellsOf f0.type + P.cellsOf f1.type)
    (h0 : Opens enc P w d0 G0 f0.type) (h1 : Opens enc P w d1 G1 f1.type) : Opens enc P w (Kd.pair d0 d1) (fun p => G0 p.1 ∧ G1 p.2) t := fun fuel cs x h => by
  obtain ⟨xs, n, _, _, hl, hlen, hf⟩ := DataW.trod_struct ht h
  have e0 := hf 0 f0 rfl
  have e1 := hf 1 f1 rfl
  have l0 : 0 < xs.length := by rw [hlen]; simp
  have l1 : 1 < xs.length := by rw [hlen]; simp
  rw [List.getElem?_eq_getElem l0, o0] at e0
  rw [List.getElem?_eq_getElem l1, o1] at e1
  obtain ⟨a, hKa, hGa⟩ := h0 _ _ _ e0
  obtain ⟨b, hKb, hGb⟩ := h1 _ _ _ e1
  refine ⟨(a, b), ⟨_, _, ?_, hKa, hKb⟩, hGa, hGb⟩
  have := whole cs _ (hl.trans hC)
  rw [cut2, Nat.zero_add] at this
  exact this
theorem opens_struct3 {d0 : Kd α} {d1 : Kd β} {d2 : Kd γ} {G0 : α → Prop} {G1 : β → Prop} {G2 : γ → Prop} {t : TypeId} {f0 f1 f2 : Field} (ht : P.underlying t = some (.struct #[f0, f1, f2])) (o0 : f0.offset = 0) (o1 : f1.offset = P.cellsOf f0.type) (o2 : f2.offset = P.cellsOf f0.type + P.cellsOf f1.type)
    (hC : P.cellsOf t = P.cellsOf f0.type + (P.cellsOf f1.type + P.cellsOf f2.type))
    (h0 : Opens enc P w d0 G0 f0.type) (h1 : Opens enc P w d1 G1 f1.type) (h2 : Opens enc P w d2 G2 f2.type) : Opens enc P w (Kd.pair d0 (Kd.pair d1 d2)) (fun p => G0 p.1 ∧ G1 p.2.1 ∧ G2 p.2.2) t := fun fuel cs x h => by
  obtain ⟨xs, n, _, _, hl, hlen, hf⟩ := DataW.trod_struct ht h
  have e0 := hf 0 f0 rfl
  have e1 := hf 1 f1 rfl
  have e2 := hf 2 f2 rfl
  have l2 : 2 < xs.length := by rw [hlen]; simp
  rw [List.getElem?_eq_getElem (by omega), o0] at e0
  rw [List.getElem?_eq_getElem (by omega), o1] at e1
  rw [List.getElem?_eq_getElem l2, o2] at e2
  obtain ⟨a, hKa, hGa⟩ := h0 _ _ _ e0
  obtain ⟨b, hKb, hGb⟩ := h1 _ _ _ e1
  obtain ⟨c, hKc, hGc⟩ := h2 _ _ _ e2
  refine ⟨(a, b, c), ⟨_, _, ?_, hKa, _, _, rfl, hKb, hKc⟩, hGa, hGb, hGc⟩
  have := whole cs _ (hl.trans hC)
  rw [cut2, Nat.zero_add, cut2] at this
  exact this
theorem opens_struct4 {d0 : Kd α} {d1 : Kd β} {d2 : Kd γ} {d3 : Kd δ} {G0 : α → Prop} {G1 : β → Prop} {G2 : γ → Prop} {G3 : δ → Prop} {t : TypeId} {f0 f1 f2 f3 : Field} (ht : P.underlying t = some (.struct #[f0, f1, f2, f3])) (o0 : f0.offset = 0) (o1 : f1.offset = P.cellsOf f0.type) (o2 : f2.offset = P.cellsOf f0.type + P.cellsOf f1.type) (o3 : f3.offset = P.cellsOf f0.type + P.cellsOf f1.type + P.cellsOf f2.type)
    (hC : P.cellsOf t = P.cellsOf f0.type + (P.cellsOf f1.type + (P.cellsOf f2.type + P.cellsOf f3.type)))
    (h0 : Opens enc P w d0 G0 f0.type) (h1 : Opens enc P w d1 G1 f1.type) (h2 : Opens enc P w d2 G2 f2.type) (h3 : Opens enc P w d3 G3 f3.type) : Opens enc P w (Kd.pair d0 (Kd.pair d1 (Kd.pair d2 d3))) (fun p => G0 p.1 ∧ G1 p.2.1 ∧ G2 p.2.2.1 ∧ G3 p.2.2.2) t := fun fuel cs x h => by
  obtain ⟨xs, n, _, _, hl, hlen, hf⟩ := DataW.trod_struct ht h
  have e0 := hf 0 f0 rfl
  have e1 := hf 1 f1 rfl
  have e2 := hf 2 f2 rfl
  have e3 := hf 3 f3 rfl
  have l3 : 3 < xs.length := by rw [hlen]; simp
  rw [List.getElem?_eq_getElem (by omega), o0] at e0
  rw [List.getElem?_eq_getElem (by omega), o1] at e1
  rw [List.getElem?_eq_getElem (by omega), o2] at e2
  rw [List.getElem?_eq_getElem l3, o3] at e3
  obtain ⟨a, hKa, hGa⟩ := h0 _ _ _ e0
  obtain ⟨b, hKb, hGb⟩ := h1 _ _ _ e1
  obtain ⟨c, hKc, hGc⟩ := h2 _ _ _ e2
  obtain ⟨d, hKd, hGd⟩ := h3 _ _ _ e3
  refine ⟨(a, b, c, d), ⟨_, _, ?_, hKa, _, _, rfl, hKb, _, _, rfl, hKc, hKd⟩, hGa, hGb, hGc, hGd⟩
  have := whole cs _ (hl.trans hC)
  rw [cut2, Nat.zero_add, cut2, cut2] at this
  exact this
theorem opens_struct5 {ζ : Type} {d0 : Kd α} {d1 : Kd β} {d2 : Kd γ} {d3 : Kd δ} {d4 : Kd ζ} {G0 : α → Prop} {G1 : β → Prop} {G2 : γ → Prop} {G3 : δ → Prop} {G4 : ζ → Prop} {t : TypeId} {f0 f1 f2 f3 f4 : Field} (ht : P.underlying t = some (.struct #[f0, f1, f2, f3, f4])) (o0 : f0.offset = 0) (o1 : f1.offset = P.cellsOf f0.type) (o2 : f2.offset = P.cellsOf f0.type + P.cellsOf f1.type) (o3 : f3.offset = P.cellsOf f0.type + P.cellsOf f1.type + P.cellsOf f2.type) (o4 : f4.offset = P.cellsOf f0.type + P.cellsOf f1.type + P.cellsOf f2.type + P.cellsOf f3.type)
    (hC : P.cellsOf t = P.cellsOf f0.type + (P.cellsOf f1.type + (P.cellsOf f2.type + (P.cellsOf f3.type + P.cellsOf f4.type))))
    (h0 : Opens enc P w d0 G0 f0.type) (h1 : Opens enc P w d1 G1 f1.type) (h2 : Opens enc P w d2 G2 f2.type) (h3 : Opens enc P w d3 G3 f3.type) (h4 : Opens enc P w d4 G4 f4.type) : Opens enc P w (Kd.pair d0 (Kd.pair d1 (Kd.pair d2 (Kd.pair d3 d4)))) (fun p => G0 p.1 ∧ G1 p.2.1 ∧ G2 p.2.2.1 ∧ G3 p.2.2.2.1 ∧ G4 p.2.2.2.2) t := fun fuel cs x h => by
  obtain ⟨xs, n, _, _, hl, hlen, hf⟩ := DataW.trod_struct ht h
  have e0 := hf 0 f0 rfl
  have e1 := hf 1 f1 rfl
  have e2 := hf 2 f2 rfl
  have e3 := hf 3 f3 rfl
  have e4 := hf 4 f4 rfl
  have l4 : 4 < xs.length := by rw [hlen]; simp
  rw [List.getElem?_eq_getElem (by omega), o0] at e0
  rw [List.getElem?_eq_getElem (by omega), o1] at e1
  rw [List.getElem?_eq_getElem (by omega), o2] at e2
  rw [List.getElem?_eq_getElem (by omega), o3] at e3
  rw [List.getElem?_eq_getElem l4, o4] at e4
  obtain ⟨a, hKa, hGa⟩ := h0 _ _ _ e0
  obtain ⟨b, hKb, hGb⟩ := h1 _ _ _ e1
  obtain ⟨c, hKc, hGc⟩ := h2 _ _ _ e2
  obtain ⟨d, hKd, hGd⟩ := h3 _ _ _ e3
  obtain ⟨e, hKe, hGe⟩ := h4 _ _ _ e4
  refine ⟨(a, b, c, d, e), ⟨_, _, ?_, hKa, _, _, rfl, hKb, _, _, rfl, hKc, _, _, rfl, hKd, hKe⟩, hGa, hGb, hGc, hGd, hGe⟩
  have := whole cs _ (hl.trans hC)
  rw [cut2, Nat.zero_add, cut2, cut2, cut2] at this
  exact this
end
section
variable {H : Type} (enc : TypeId × Value → H) (w : World)
def wfI (n : Int) : Prop := (Lit.int .i64 n).wf = true
theorem op_i3 : Opens enc Tryd.prog w (Kd.int .i64) wfI 3 := opens_int Tryd.underlying3
def G26 (x : S26) : Prop := wfI x.f0 ∧ wfI x.f1 ∧ wfI x.f2 ∧ ∀ y ∈ x.f3, wfI y
theorem op26 : Opens enc Tryd.prog w k26 G26 26 :=
  opens_weak (opens_iso (opens_struct4 Tryd.underlying26 rfl (by kernel_rfl) (by kernel_rfl) (by kernel_rfl) (by kernel_rfl) (op_i3 enc w) (op_i3 enc w) (op_i3 enc w) (opens_slice Tryd.underlying24 (by kernel_rfl) (op_i3 enc w))) (fun x : S26 => (x.f0, x.f1, x.f2, x.f3)) (fun p => ⟨p.1, p.2.1, p.2.2.1, p.2.2.2⟩) (fun _ => rfl)) (fun _ h => h)
theorem row27s {cs : List Value} {fuel : Nat} {x : DataW H × List MemPlace} (hx : DataW.trod enc Tryd.prog w 0 (fun _ => true) true fuel 27 cs = some x) :
    ∃ (xs : List S26) (A : Option Addr) (c : Nat), cs = [.slice A xs.length c] ∧ xs.length ≤ c ∧ Kd.C k26 w A xs.length xs ∧ ∀ x ∈ xs, G26 x := by
  obtain ⟨xs, ⟨A, c, e1, e2, e3⟩, hg⟩ := opens_slice Tryd.underlying27 (by kernel_rfl) (op26 enc w) fuel cs x hx
  exact ⟨xs, A, c, e1, e2, e3, hg⟩
theorem row27 {cs : List Value} {fuel : Nat} {x : DataW H × List MemPlace} (hx : DataW.trod enc Tryd.prog w 0 (fun _ => true) true fuel 27 cs = some x) :
    ∃ (xs : List S26) (A : Option Addr) (c : Nat), cs = [.slice A xs.length c] ∧ xs.length ≤ c ∧ Kd.C k26 w A xs.length xs := by
  obtain ⟨xs, A, c, e1, e2, e3, _⟩ := row27s enc w hx
  exact ⟨xs, A, c, e1, e2, e3⟩
theorem row22s {cs : List Value} {fuel : Nat} {x : DataW H × List MemPlace} (hx : DataW.trod enc Tryd.prog w 0 (fun _ => true) true fuel 22 cs = some x) :
    ∃ (xs : List Int) (A : Option Addr) (c : Nat), cs = [.slice A xs.length c] ∧ xs.length ≤ c ∧ Kd.C (Kd.int .u8) w A xs.length xs ∧ ∀ x ∈ xs, (Lit.int .u8 x).wf = true := by
  obtain ⟨xs, ⟨A, c, e1, e2, e3⟩, hg⟩ := opens_slice Tryd.underlying22 (by kernel_rfl) (opens_int Tryd.underlying5) fuel cs x hx
  exact ⟨xs, A, c, e1, e2, e3, hg⟩
theorem row31 {cs : List Value} {fuel : Nat} {x : DataW H × List MemPlace} (hx : DataW.trod enc Tryd.prog w 0 (fun _ => true) true fuel 31 cs = some x) :
    ∃ (xs : List Bool) (A : Option Addr) (c : Nat), cs = [.slice A xs.length c] ∧ xs.length ≤ c ∧ Kd.C Kd.bool w A xs.length xs := by
  obtain ⟨xs, ⟨A, c, e1, e2, e3⟩, hg⟩ := opens_slice Tryd.underlying31 (by kernel_rfl) (opens_bool Tryd.underlying4) fuel cs x hx
  exact ⟨xs, A, c, e1, e2, e3⟩
theorem row26 {cs : List Value} {fuel : Nat} {x : DataW H × List MemPlace} (hx : DataW.trod enc Tryd.prog w 0 (fun _ => true) true fuel 26 cs = some x) :
    ∃ (y : S26) (A : Option Addr) (c : Nat), cs = [.int .i64 y.f0, .int .i64 y.f1, .int .i64 y.f2, .slice A y.f3.length c] ∧ y.f3.length ≤ c ∧ (Kd.int .i64).C w A y.f3.length y.f3 ∧ G26 y := by
  obtain ⟨y, hK, hg⟩ := op26 enc w fuel cs x hx
  obtain ⟨A, c, e1, e2, e3⟩ := k26_open hK
  exact ⟨y, A, c, e1, e2, e3, hg⟩
end
end Go.Proofs.YtcnclgneldonfaaDoor.P
