/- lex.number: the number token at the head. -/
import Derived.Test.YtphlbjpefnjjnaaDoorHa
import Derived.Test.YtphlbjpefnjjnaaDoorSh
import Derived.Shelf.Strings.SlTrimAscii
import Derived.Lib.AppendIntMem
namespace Go.Proofs.YtphlbjpefnjjnaaDoor.P
open Go.RowKit Go.Proofs.YtphlbjpefnjjnaaDoorW.PrintWords Go.Proofs.YtphlbjpefnjjnaaDoorW.PrintLast Go.Proofs.YtphlbjpefnjjnaaDoorW.PrintMore
set_option linter.unusedVariables false
set_option linter.unusedSimpArgs false
theorem cell_lt {w : World} {a : Addr} {v : Value} (h : w.cell? a = some v) : a.block < w.heap.size := World.block_lt_of_cell? w _ h
/-- What the package-level variables hold that strconv reads. -/
def Laid (w : World) : Prop := Lib.TabIs Tryd.prog w "internal/strconv.uint64pow10" .u64 Lib.pow10Tab ∧ ∃ ev, w.cell? ⟨4, 0, none⟩ = some ev ∧ (ev = .nilIface ∨ ∃ te pe, ev = .iface te pe)
theorem Laid.below {w w' : World} (h : Laid w) (hb : Below w.heap.size w w') : Laid w' := by
  obtain ⟨h1, ev, h2, h3⟩ := h
  refine ⟨?_, ev, (hb.cell (cell_lt h2)).trans h2, h3⟩
  clear h2 h3
  unfold Lib.TabIs World.var? at *
  cases hg : Tryd.prog.globalNamed "internal/strconv.uint64pow10" with
  | none => simp [hg] at h1
  | some g =>
    simp only [hg, Option.bind_some] at h1 ⊢
    have hlt : g < w.heap.size := by
      rcases Nat.lt_or_ge g w.heap.size with h' | h'
      · exact h'
      · rw [Array.getElem?_eq_none h'] at h1; simp at h1
    rw [hb.block g hlt]
    exact h1
/-- The number that digits spell. -/
def valL (l : List UInt8) : Nat := l.foldl (fun a b => a * 10 + (b.toNat - 48)) 0
def digs (l : List UInt8) : Prop := ∀ b ∈ l, isDig (b.toNat : Int) = true
theorem decFrom_digs : ∀ (l : List UInt8) (a : Nat), digs l → Lib.decFrom a l = some (l.foldl (fun a b => a * 10 + (b.toNat - 48)) a)
  | [], a, _ => rfl
  | b :: l, a, h => by
    have hb := h b (List.mem_cons_self ..)
    have h2 : 48 ≤ b.toNat ∧ b.toNat ≤ 57 := by unfold isDig at hb; have := of_decide_eq_true hb; omega
    unfold Lib.decFrom
    rw [show Lib.digitVal b = some (b.toNat - 48) from by unfold Lib.digitVal; rw [if_pos h2]]
    exact decFrom_digs l _ (fun x hx => h x (List.mem_cons_of_mem _ hx))
theorem atoi_digs (l : List UInt8) (hn : l ≠ []) (h : digs l) : Lib.atoi l = some (valL l : Int) := by
  cases l with
  | nil => exact absurd rfl hn
  | cons b r =>
    have hb := h b (List.mem_cons_self ..)
    have h2 : 48 ≤ b.toNat ∧ b.toNat ≤ 57 := by unfold isDig at hb; have := of_decide_eq_true hb; omega
    unfold Lib.atoi
    simp only []
    rw [if_neg (by intro e; rw [eq_of_beq e] at h2; revert h2; decide), if_neg (by intro e; rw [eq_of_beq e] at h2; revert h2; decide)]
    unfold Lib.decNat
    rw [if_neg (by simp), decFrom_digs _ _ h]
    rfl
theorem parse10_digs : ∀ (l : List UInt8) (a : Nat), digs l → (∃ v, Lib.parseUint10 a l = .ok v) ∨ Lib.parseUint10 a l = .range
  | [], a, _ => .inl ⟨a, rfl⟩
  | b :: l, a, h => by
    have hb := h b (List.mem_cons_self ..)
    have h2 : 48 ≤ b.toNat ∧ b.toNat ≤ 57 := by unfold isDig at hb; have := of_decide_eq_true hb; omega
    unfold Lib.parseUint10
    rw [if_pos h2]
    split
    · exact .inr rfl
    · split
      · exact .inr rfl
      · exact parse10_digs l _ (fun x hx => h x (List.mem_cons_of_mem _ hx))
theorem atoiAll_digs (l : List UInt8) (hn : l ≠ []) (h : digs l) : (∃ v, Lib.atoiAll l = .ok v) ∨ Lib.atoiAll l = .range := by
  cases l with
  | nil => exact absurd rfl hn
  | cons b r =>
    have hb := h b (List.mem_cons_self ..)
    have h2 : 48 ≤ b.toNat ∧ b.toNat ≤ 57 := by unfold isDig at hb; have := of_decide_eq_true hb; omega
    unfold Lib.atoiAll
    simp only []
    rw [if_neg (by omega)]
    have hp := parse10_digs (b :: r) 0 h
    unfold Lib.parseMag
    rw [if_neg (by simp)]
    rcases hp with ⟨u, hu⟩ | hu
    · rw [hu]
      simp only []
      split
      · exact .inr rfl
      · split
        · exact .inr rfl
        · exact .inl ⟨_, rfl⟩
    · rw [hu]
      exact .inr rfl
theorem runL_digs (l : List UInt8) : digs (l.take (runL isDig l)) := by
  induction l with
  | nil => intro b hb; simp at hb
  | cons b l ih =>
    intro x hx
    unfold runL at hx
    by_cases e : isDig (b.toNat : Int) = true
    · rw [if_pos e, List.take_succ_cons] at hx
      rcases List.mem_cons.1 hx with rfl | hx
      · exact e
      · exact ih x hx
    · rw [if_neg e] at hx
      simp at hx
/-- Whether the number at the head of s is well-formed, and its value. -/
def numW (s : ByteArray) : ByteArray := s.extract 0 (runV isDig s)
def numFollow (s : ByteArray) : Bool := decide (runV isDig s < s.size) && isWin ((s.data.toList.getD (runV isDig s) 0).toNat : Int)
def numOk (s : ByteArray) : Bool := decide (runV isDig s ≤ 13) && decide ((valL (numW s).data.toList : Int) ≤ 1099511627776) && decide (Lib.itoa (valL (numW s).data.toList) = (numW s).data.toList) && !numFollow s
theorem numW_list (s : ByteArray) : (numW s).data.toList = s.data.toList.take (runL isDig s.data.toList) := by
  unfold numW runV
  simp [ByteArray.data_extract, Array.toList_extract, List.extract]
theorem numW_size (s : ByteArray) : (numW s).size = runV isDig s := by
  have := runV_le isDig s
  have h := congrArg List.length (numW_list s)
  rw [sizeL, List.length_take, sizeL] at h
  unfold runV at this ⊢
  omega
theorem bytes_below (w : World) (t) : Below w.heap.size w (Lib.bytesWorld w 5 t) := Lib.bytesWorld_below w 5 t
theorem atoi_walk (x : ByteArray) (h0 : 0 < x.size) (hx : x.size ≤ 1000000) (hd : digs x.data.toList) (w : World) (hL : Laid w) :
    Calls Tryd.prog 41 #[.string x] w fun e w' => (∃ (n : Int) (er : Value), e = .returned (.tuple #[.int .i64 n, er]) ∧ (x.size ≤ 18 → n = (valL x.data.toList : Int) ∧ er = .nilIface) ∧ (er = .nilIface ∨ ∃ N, er = .iface 88 (.pointer (some ⟨N, 0, none⟩)))) ∧ Below w.heap.size w w' := by
  have hn : x.data.toList ≠ [] := by
    intro e
    have := congrArg List.length e
    rw [sizeL] at this
    have h2 : ([] : List UInt8).length = 0 := rfl
    omega
  by_cases h18 : x.size ≤ 18
  · refine (Tryd.strconv_Atoi x _ h18 (atoi_digs _ hn hd) w).mono ?_
    rintro e w' ⟨rfl, t, rfl⟩
    exact ⟨⟨_, _, rfl, fun _ => ⟨rfl, rfl⟩, .inl rfl⟩, bytes_below w t⟩
  · obtain ⟨_, ev, hv, hev⟩ := hL
    rcases atoiAll_digs x.data.toList hn hd with ⟨v, hr⟩ | hr
    rotate_left
    · refine (Tryd.strconv_Atoi_range x (by omega) hr ev w hv hev).mono ?_
      rintro e w' ⟨N, rfl, _, _, hb⟩
      exact ⟨⟨_, _, rfl, fun h => absurd h h18, .inr ⟨N, rfl⟩⟩, hb⟩
    · refine (Tryd.strconv_Atoi_ok x (by omega) v hr w).mono ?_
      rintro e w' ⟨rfl, h⟩
      refine ⟨⟨_, _, rfl, fun h => absurd h h18, .inl rfl⟩, ?_⟩
      rcases h with rfl | ⟨t, rfl⟩
      · exact Below.refl _ _
      · exact bytes_below w t
abbrev tok0 : Obj := .cells #[.int .i64 0, .string ⟨#[]⟩, .int .i64 0, .int .i64 0] 30 (0, 0)
theorem blk4 {W : World} {g : Nat} {a b c d : Value} (h : W.heap[g]? = some (.cells #[a, b, c, d] 30 (0, 0))) :
    (W.cell? ⟨g, 0, none⟩ = some a ∧ W.cell? ⟨g, 1, none⟩ = some b ∧ W.cell? ⟨g, 2, none⟩ = some c ∧ W.cell? ⟨g, 3, none⟩ = some d) ∧ W.frozen? ⟨g, 0, none⟩ = false ∧ W.frozen? ⟨g, 1, none⟩ = false ∧ W.frozen? ⟨g, 2, none⟩ = false ∧ W.frozen? ⟨g, 3, none⟩ = false :=
  ⟨⟨blk_cell h 0, blk_cell h 1, blk_cell h 2, blk_cell h 3⟩, blk_frozen h 0, blk_frozen h 1, blk_frozen h 2, blk_frozen h 3⟩
theorem tok_put {W : World} {g : Nat} {a0 b0 c0 d0 : Value} (h : W.heap[g]? = some (.cells #[a0, b0, c0, d0] 30 (0, 0))) (a b c d : Value) :
    ((((W.setCell ⟨g, 0, none⟩ a).setCell ⟨g, 1, none⟩ b).setCell ⟨g, 2, none⟩ c).setCell ⟨g, 3, none⟩ d).heap[g]? = some (.cells #[a, b, c, d] 30 (0, 0)) := blk_put (blk_put (blk_put (blk_put h 0 a rfl) 1 b rfl) 2 c rfl) 3 d rfl
theorem tok_below {B : Nat} {w W : World} (h : Below B w W) (g : Nat) (hg : B ≤ g) (a b c d : Value) : Below B w ((((W.setCell ⟨g, 0, none⟩ a).setCell ⟨g, 1, none⟩ b).setCell ⟨g, 2, none⟩ c).setCell ⟨g, 3, none⟩ d) :=
  (((h.setCell hg _).setCell hg _).setCell hg _).setCell hg _
set_option maxHeartbeats 4000000 in
set_option maxRecDepth 1000000 in
theorem number_walk (s : ByteArray) (hs : s.size ≤ 1000000) (h0 : 0 < runV isDig s) (w : World) (hL : Laid w) :
    Calls Tryd.prog 32 #[.string s] w fun e w' => (∃ n : Int, (numOk s = true → n = (valL (numW s).data.toList : Int)) ∧ e = .returned (.tuple #[.agg #[.int .i64 2, .string (numW s), .int .i64 n, .int .i64 0], .bool (numOk s)])) ∧ Below w.heap.size w w' := by
  have hle := runV_le isDig s
  go_enter Tryd.func32, Tryd.ntmps32
  go_wp2_with (go_at_call 29; refine (run_digit s (by omega) _).mono ?_; rintro e w1 ⟨rfl, hb1⟩)
  have hb2 : Below w.heap.size w w1 := ((Below.refl w.heap.size w).alloc (Nat.le_refl _) _).trans (hb1.mono (by simp))
  refine (atoi_walk (numW s) (by rw [numW_size]; exact h0) (by rw [numW_size]; omega) (by rw [numW_list]; exact runL_digs _) w1 (hL.below hb2)).mono ?_
  rintro e w2 ⟨⟨n, er, rfl, hn, her⟩, hb3⟩
  rw [numW_size] at hn
  have HB := Aside0.mk (hb2.trans (hb3.mono hb2.size))
  have BK := Aside0.mk (blk_below (blk_below (blk_new w tok0) hb1) hb3)
  clear hb1 hb2 hb3
  have HIT : ∀ W, Below w2.heap.size w2 W → 0 ≤ n → n ≤ 1099511627776 → Calls Tryd.prog 42 #[.int .i64 n] W fun e w' => e = .returned (.string ⟨(Lib.itoa n).toArray⟩) ∧ Below W.heap.size W w' := fun W hB a b => by
    refine (Tryd.strconv_Itoa n (by omega) (by omega) W (hL.below (HB.out.trans (hB.mono HB.out.size))).1).mono ?_
    rintro e w' ⟨rfl, k, os, rfl⟩
    exact ⟨rfl, Lib.below_grow _ _ (Nat.le_refl _) _ _⟩
  have HI := Aside0.mk HIT
  clear HIT
  have hwi : ∀ hf : runV isDig s < s.size, lex_within.f (wrap32 ((s[runV isDig s]'hf).toNat : Int)) = some (numFollow s) := fun hf => by
    have hb : ((s[runV isDig s]'hf).toNat : Int) < 256 := by have := (s[runV isDig s]'hf).toNat_lt; omega
    rw [show wrap32 ((s[runV isDig s]'hf).toNat : Int) = ((s[runV isDig s]'hf).toNat : Int) from by unfold wrap32; omega, within_eq]
    unfold numFollow
    rw [decide_eq_true hf, Bool.true_and, Lib.getD_at s _ hf]
  have HF : ¬ runV isDig s < s.size → numFollow s = false := fun h => by unfold numFollow; rw [decide_eq_false h]; rfl
  have HO : numOk s = (decide (runV isDig s ≤ 13) && decide ((valL (numW s).data.toList : Int) ≤ 1099511627776) && decide (Lib.itoa (valL (numW s).data.toList) = (numW s).data.toList) && !numFollow s) := rfl
  obtain ⟨fo, hfo⟩ : ∃ fo, numFollow s = fo := ⟨_, rfl⟩
  rw [hfo] at HF HO hwi
  clear hfo
  have HN : runV isDig s ≤ 18 → n = (valL (numW s).data.toList : Int) := fun h => (hn h).1
  have HE : runV isDig s ≤ 13 → er = .nilIface := fun h => (hn (by omega)).2
  have HQ : er = .nilIface ∨ 13 < runV isDig s := by
    by_cases h : runV isDig s ≤ 13
    · exact .inl (HE h)
    · exact .inr (by omega)
  clear hn HE
  have HP := Aside0.mk HO
  clear HO
  by_cases hf : runV isDig s < s.size
  · have hw := hwi hf
    go_wp2_with fail
    refine (lex_within.calls _ fo _ hw).mono ?_
    rintro e w3 ⟨rfl, hd3⟩
    have hbd3 := hd3.below
    clear hd3 hw
    have HB3 := Aside0.mk (HB.out.trans (hbd3.mono HB.out.size))
    have BK3 := Aside0.mk (blk_below BK.out hbd3)
    have HBD := Aside0.mk hbd3
    clear hbd3 HF hwi HB BK hL
    obtain ⟨⟨k0, k1, k2, k3⟩, f0, f1, f2, f3⟩ := blk4 BK3.out
    by_cases hk : runV isDig s ≤ 13
    · obtain rfl : er = .nilIface := by rcases HQ with h | h; exact h; omega
      have hnv := Aside0.mk (HN (by omega))
      have hn0 : 0 ≤ n := by have := hnv.out; omega
      clear HN HQ her
      by_cases hm : n ≤ 1099511627776
      · go_wp2_with fail
        refine (HI.out _ HBD.out hn0 hm).mono ?_
        rintro e w4 ⟨rfl, hb4⟩
        have HB4 := Aside0.mk (HB3.out.trans (hb4.mono HB3.out.size))
        have BK4 := Aside0.mk (blk_below BK3.out hb4)
        clear hb4 k0 k1 k2 k3 f0 f1 f2 f3
        obtain ⟨⟨k0, k1, k2, k3⟩, f0, f1, f2, f3⟩ := blk4 BK4.out
        go_wp2
        all_goals obtain ⟨⟨q0, q1, q2, q3⟩, -⟩ := blk4 (tok_put BK4.out (.int .i64 2) (.string (s.extract 0 (runV isDig s))) (.int .i64 n) (.int .i64 0))
        all_goals rename_i hq
        all_goals rw [Lib.toList_data] at hq
        · first
          | have hok : numOk s = !fo := by
              rw [HP.out, decide_eq_true hk, ← hnv.out, decide_eq_true hm, decide_eq_true (show Lib.itoa n = (numW s).data.toList from hq)]
              simp
            refine bodyPost_ret (v := .tuple #[.agg #[.int .i64 2, .string (numW s), .int .i64 n, .int .i64 0], .bool (!fo)]) ?_ rfl ?_
            · simp [results, Tryd.results32, go_sem, q0, q1, q2, q3]; rfl
            · exact ⟨⟨n, fun _ => hnv.out, by rw [hok]⟩, tok_below HB4.out _ (Nat.le_refl _) _ _ _ _⟩
          | have hok : numOk s = false := by
              rw [HP.out, decide_eq_true hk, ← hnv.out, decide_eq_true hm, decide_eq_false (show ¬ Lib.itoa n = (numW s).data.toList from hq)]
              simp
            refine bodyPost_ret (v := .tuple #[.agg #[.int .i64 2, .string (numW s), .int .i64 n, .int .i64 0], .bool false]) ?_ rfl ?_
            · simp [results, Tryd.results32, go_sem, q0, q1, q2, q3]; rfl
            · exact ⟨⟨n, fun _ => hnv.out, by rw [hok]⟩, tok_below HB4.out _ (Nat.le_refl _) _ _ _ _⟩
        · first
          | have hok : numOk s = !fo := by
              rw [HP.out, decide_eq_true hk, ← hnv.out, decide_eq_true hm, decide_eq_true (show Lib.itoa n = (numW s).data.toList from hq)]
              simp
            refine bodyPost_ret (v := .tuple #[.agg #[.int .i64 2, .string (numW s), .int .i64 n, .int .i64 0], .bool (!fo)]) ?_ rfl ?_
            · simp [results, Tryd.results32, go_sem, q0, q1, q2, q3]; rfl
            · exact ⟨⟨n, fun _ => hnv.out, by rw [hok]⟩, tok_below HB4.out _ (Nat.le_refl _) _ _ _ _⟩
          | have hok : numOk s = false := by
              rw [HP.out, decide_eq_true hk, ← hnv.out, decide_eq_true hm, decide_eq_false (show ¬ Lib.itoa n = (numW s).data.toList from hq)]
              simp
            refine bodyPost_ret (v := .tuple #[.agg #[.int .i64 2, .string (numW s), .int .i64 n, .int .i64 0], .bool false]) ?_ rfl ?_
            · simp [results, Tryd.results32, go_sem, q0, q1, q2, q3]; rfl
            · exact ⟨⟨n, fun _ => hnv.out, by rw [hok]⟩, tok_below HB4.out _ (Nat.le_refl _) _ _ _ _⟩
      · have hok : numOk s = false := by rw [HP.out, ← hnv.out, decide_eq_false (show ¬ n ≤ 1099511627776 from hm), Bool.and_false, Bool.false_and, Bool.false_and]
        go_wp2
        obtain ⟨⟨q0, q1, q2, q3⟩, -⟩ := blk4 (tok_put BK3.out (.int .i64 2) (.string (s.extract 0 (runV isDig s))) (.int .i64 n) (.int .i64 0))
        refine bodyPost_ret (v := .tuple #[.agg #[.int .i64 2, .string (numW s), .int .i64 n, .int .i64 0], .bool false]) ?_ rfl ?_
        · simp [results, Tryd.results32, go_sem, q0, q1, q2, q3]; rfl
        · exact ⟨⟨n, rfl⟩, tok_below HB3.out _ (Nat.le_refl _) _ _ _ _⟩
    · clear HN HQ
      have hok : numOk s = false := by rw [HP.out, decide_eq_false hk]; rfl
      rcases her with rfl | ⟨N, rfl⟩
      · go_wp2
        obtain ⟨⟨q0, q1, q2, q3⟩, -⟩ := blk4 (tok_put BK3.out (.int .i64 2) (.string (s.extract 0 (runV isDig s))) (.int .i64 n) (.int .i64 0))
        refine bodyPost_ret (v := .tuple #[.agg #[.int .i64 2, .string (numW s), .int .i64 n, .int .i64 0], .bool false]) ?_ rfl ?_
        · simp [results, Tryd.results32, go_sem, q0, q1, q2, q3]; rfl
        · exact ⟨⟨n, rfl⟩, tok_below HB3.out _ (Nat.le_refl _) _ _ _ _⟩
      · go_wp2
        obtain ⟨⟨q0, q1, q2, q3⟩, -⟩ := blk4 (tok_put BK3.out (.int .i64 2) (.string (s.extract 0 (runV isDig s))) (.int .i64 n) (.int .i64 0))
        refine bodyPost_ret (v := .tuple #[.agg #[.int .i64 2, .string (numW s), .int .i64 n, .int .i64 0], .bool false]) ?_ rfl ?_
        · simp [results, Tryd.results32, go_sem, q0, q1, q2, q3]; rfl
        · exact ⟨⟨n, fun h => absurd h (by rw [hok]; simp), by rw [hok]⟩, tok_below HB3.out _ (Nat.le_refl _) _ _ _ _⟩
  · obtain rfl : fo = false := HF hf
    have hbd3 : Below w2.heap.size w2 w2 := Below.refl _ _
    have HB3 := Aside0.mk (HB.out.trans (hbd3.mono HB.out.size))
    have BK3 := Aside0.mk (blk_below BK.out hbd3)
    have HBD := Aside0.mk hbd3
    clear hbd3 HF hwi HB BK hL
    obtain ⟨⟨k0, k1, k2, k3⟩, f0, f1, f2, f3⟩ := blk4 BK3.out
    by_cases hk : runV isDig s ≤ 13
    · obtain rfl : er = .nilIface := by rcases HQ with h | h; exact h; omega
      have hnv := Aside0.mk (HN (by omega))
      have hn0 : 0 ≤ n := by have := hnv.out; omega
      clear HN HQ her
      by_cases hm : n ≤ 1099511627776
      · go_wp2_with fail
        refine (HI.out _ HBD.out hn0 hm).mono ?_
        rintro e w4 ⟨rfl, hb4⟩
        have HB4 := Aside0.mk (HB3.out.trans (hb4.mono HB3.out.size))
        have BK4 := Aside0.mk (blk_below BK3.out hb4)
        clear hb4 k0 k1 k2 k3 f0 f1 f2 f3
        obtain ⟨⟨k0, k1, k2, k3⟩, f0, f1, f2, f3⟩ := blk4 BK4.out
        go_wp2
        all_goals obtain ⟨⟨q0, q1, q2, q3⟩, -⟩ := blk4 (tok_put BK4.out (.int .i64 2) (.string (s.extract 0 (runV isDig s))) (.int .i64 n) (.int .i64 0))
        all_goals rename_i hq
        all_goals rw [Lib.toList_data] at hq
        · first
          | have hok : numOk s = true := by
              rw [HP.out, decide_eq_true hk, ← hnv.out, decide_eq_true hm, decide_eq_true (show Lib.itoa n = (numW s).data.toList from hq)]
              simp
            refine bodyPost_ret (v := .tuple #[.agg #[.int .i64 2, .string (numW s), .int .i64 n, .int .i64 0], .bool true]) ?_ rfl ?_
            · simp [results, Tryd.results32, go_sem, q0, q1, q2, q3]; rfl
            · exact ⟨⟨n, fun _ => hnv.out, by rw [hok]⟩, tok_below HB4.out _ (Nat.le_refl _) _ _ _ _⟩
          | have hok : numOk s = false := by
              rw [HP.out, decide_eq_true hk, ← hnv.out, decide_eq_true hm, decide_eq_false (show ¬ Lib.itoa n = (numW s).data.toList from hq)]
              simp
            refine bodyPost_ret (v := .tuple #[.agg #[.int .i64 2, .string (numW s), .int .i64 n, .int .i64 0], .bool false]) ?_ rfl ?_
            · simp [results, Tryd.results32, go_sem, q0, q1, q2, q3]; rfl
            · exact ⟨⟨n, fun _ => hnv.out, by rw [hok]⟩, tok_below HB4.out _ (Nat.le_refl _) _ _ _ _⟩
        · first
          | have hok : numOk s = true := by
              rw [HP.out, decide_eq_true hk, ← hnv.out, decide_eq_true hm, decide_eq_true (show Lib.itoa n = (numW s).data.toList from hq)]
              simp
            refine bodyPost_ret (v := .tuple #[.agg #[.int .i64 2, .string (numW s), .int .i64 n, .int .i64 0], .bool true]) ?_ rfl ?_
            · simp [results, Tryd.results32, go_sem, q0, q1, q2, q3]; rfl
            · exact ⟨⟨n, fun _ => hnv.out, by rw [hok]⟩, tok_below HB4.out _ (Nat.le_refl _) _ _ _ _⟩
          | have hok : numOk s = false := by
              rw [HP.out, decide_eq_true hk, ← hnv.out, decide_eq_true hm, decide_eq_false (show ¬ Lib.itoa n = (numW s).data.toList from hq)]
              simp
            refine bodyPost_ret (v := .tuple #[.agg #[.int .i64 2, .string (numW s), .int .i64 n, .int .i64 0], .bool false]) ?_ rfl ?_
            · simp [results, Tryd.results32, go_sem, q0, q1, q2, q3]; rfl
            · exact ⟨⟨n, fun _ => hnv.out, by rw [hok]⟩, tok_below HB4.out _ (Nat.le_refl _) _ _ _ _⟩
      · have hok : numOk s = false := by rw [HP.out, ← hnv.out, decide_eq_false (show ¬ n ≤ 1099511627776 from hm), Bool.and_false, Bool.false_and, Bool.false_and]
        go_wp2
        obtain ⟨⟨q0, q1, q2, q3⟩, -⟩ := blk4 (tok_put BK3.out (.int .i64 2) (.string (s.extract 0 (runV isDig s))) (.int .i64 n) (.int .i64 0))
        refine bodyPost_ret (v := .tuple #[.agg #[.int .i64 2, .string (numW s), .int .i64 n, .int .i64 0], .bool false]) ?_ rfl ?_
        · simp [results, Tryd.results32, go_sem, q0, q1, q2, q3]; rfl
        · exact ⟨⟨n, rfl⟩, tok_below HB3.out _ (Nat.le_refl _) _ _ _ _⟩
    · clear HN HQ
      have hok : numOk s = false := by rw [HP.out, decide_eq_false hk]; rfl
      rcases her with rfl | ⟨N, rfl⟩
      · go_wp2
        obtain ⟨⟨q0, q1, q2, q3⟩, -⟩ := blk4 (tok_put BK3.out (.int .i64 2) (.string (s.extract 0 (runV isDig s))) (.int .i64 n) (.int .i64 0))
        refine bodyPost_ret (v := .tuple #[.agg #[.int .i64 2, .string (numW s), .int .i64 n, .int .i64 0], .bool false]) ?_ rfl ?_
        · simp [results, Tryd.results32, go_sem, q0, q1, q2, q3]; rfl
        · exact ⟨⟨n, rfl⟩, tok_below HB3.out _ (Nat.le_refl _) _ _ _ _⟩
      · go_wp2
        obtain ⟨⟨q0, q1, q2, q3⟩, -⟩ := blk4 (tok_put BK3.out (.int .i64 2) (.string (s.extract 0 (runV isDig s))) (.int .i64 n) (.int .i64 0))
        refine bodyPost_ret (v := .tuple #[.agg #[.int .i64 2, .string (numW s), .int .i64 n, .int .i64 0], .bool false]) ?_ rfl ?_
        · simp [results, Tryd.results32, go_sem, q0, q1, q2, q3]; rfl
        · exact ⟨⟨n, fun h => absurd h (by rw [hok]; simp), by rw [hok]⟩, tok_below HB3.out _ (Nat.le_refl _) _ _ _ _⟩
end Go.Proofs.YtphlbjpefnjjnaaDoor.P
