-- Written by pp.py (this session's program over the kit's printer): functions, contracts. Not trusted: Lean checks it.
import Derived.Test.YtdaonhgcejjlhaaYM0
import Derived.Test.YtdaonhgcejjlhaaYM4
import Derived.Test.YtdaonhgcejjlhaaYM1
namespace Go.Proofs.Ytdaonhgcejjlhaa.P
open Go.RowKit Go.Proofs.YtdaonhgcejjlhaaW.PrintWords Go.Proofs.YtdaonhgcejjlhaaW.PrintLast Go.Proofs.YtdaonhgcejjlhaaW.PrintMore
attribute [local go_sem] max2_int min2_int max_two min_two max_three min_three max_four min_four   -- for this text's walks alone
set_option linter.unusedVariables false
set_option linter.unusedSimpArgs false

/-! ### hallmootlaw22_sanity: function 7 -/
def hallmootlaw22_sanity.f (k : Nat)  : Option (Bool) := (disk_New.f 2).bind fun bt152 => ((hallmootlaw22_full.f k 97).bind fun t160 => ((dWrite.f bt152.1 bt152.2.1 1 t160).bind fun bt161 => ((dCrash.f bt161.1 bt161.2.1 (([2] : List Int))).bind fun bt172 => ((disk_Read.f bt172.1 bt172.2 1).bind fun bt179 => ((disk_Read.f bt172.1 bt172.2 2).bind fun bt181 => ((dWrite.f bt172.1 bt172.2 0 (⟨#[97]⟩ : ByteArray)).bind fun bt183 => (if bt152.2.2 = 0 then (if bt161.2.2 = 0 then (if bt179.2 = 0 then (if bt181.2 = 8 then (if bt183.2.2 = 1 then ((hallmootlaw22_full.f k 0).bind fun t191 => (if 2 ≤ (t191.size : Int) then (if 2 + (t191.extract 2 t191.size).size ≤ 9223372036854775807 then (if bt179.1.toList = ((⟨#[97, 97]⟩ : ByteArray) ++ (t191.extract 2 t191.size)).toList then ((disk_Sync.f bt161.1 bt161.2.1).bind fun bt192 => ((dCrash.f bt192.1 bt192.2 ([] : List Int)).bind fun bt198 => ((disk_Sync.f bt161.1 bt161.2.1).bind fun bt204 => ((disk_Same.f k bt198.1 bt198.2 bt204.1 bt204.2).bind fun t210 => (if t210 = true then ((dRight.f bt161.1 bt161.2.1).bind fun t211 => (if t211 = true then ((dRight.f (([(⟨#[]⟩ : ByteArray)] : List ByteArray)) ([] : List (S46))).bind fun t215 => (if t215 = true then (none) else ((disk_Same.f k bt161.1 bt161.2.1 bt152.1 bt152.2.1).bind fun t216 => (some (!t216))))) else (none))) else (none)))))) else (none)) else (none)) else (none))) else (none)) else (none)) else (none)) else (none)) else (none))))))))
theorem hallmootlaw22_sanity.mono : ∀ k, LeO (hallmootlaw22_sanity.f k ) (hallmootlaw22_sanity.f (k + 1) ) := by
 intro  k
 unfold hallmootlaw22_sanity.f
 repeat' first | (with_reducible exact disk_Same.mono _ _ _ _ _) | (with_reducible exact hallmootlaw22_full.mono _ _) | (with_reducible exact LeO.refl _) | (with_reducible exact LeO.none _) | (with_reducible refine LeO.ite ?_ ?_) | (with_reducible refine LeO.bind ?_ (fun _ => ?_)) | exact disk_Same.mono _ _ _ _ _ | exact hallmootlaw22_full.mono _ _ | exact LeO.none _ | refine LeO.ite ?_ ?_ | refine LeO.bind ?_ (fun _ => ?_)
def hallmootlaw22_sanity.T2 : Bool × List (List Nat × List Nat) := (true, [([], []), ([], []), ([0, 1, 1], [0, 1]), ([2], [2]), ([3], [3]), ([3], [3]), ([], []), ([6, 4, 2, 0, 1, 2, 3, 4, 6], [4, 6]), ([5, 7, 0, 1, 2, 3, 4, 5, 6, 7], [5])])
def hallmootlaw22_sanity.B2 : List Nat := [0, 0, 3, 7, 15, 15, 0, 95, 255]
theorem hallmootlaw22_sanity.tab2 : rtab .any (opsOf Try.f7 2) = hallmootlaw22_sanity.T2 := by kernel_rfl
theorem hallmootlaw22_sanity.bits2 : waitsOk hallmootlaw22_sanity.T2.2 hallmootlaw22_sanity.B2 = true := by kernel_rfl
def hallmootlaw22_sanity.T7 : Bool × List (List Nat × List Nat) := (true, [([], []), ([0], [0]), ([1], [1]), ([2], [2]), ([3, 2], [2, 3]), ([2, 4], [2, 4]), ([5, 2], [5]), ([6], [6]), ([7, 6], [6, 7]), ([6, 8], [6, 8]), ([9, 6], [9]), ([10], [10]), ([11, 10], [10, 11]), ([10, 12], [10, 12]), ([13, 10], [13]), ([14], [14]), ([15, 14], [14, 15]), ([14, 16], [14, 16]), ([17, 14], [17]), ([18], [18]), ([18, 18], [18]), ([20, 18], [18, 20]), ([21, 18], [18, 21]), ([19, 22, 18], [18, 19, 22]), ([18, 23], [18, 23]), ([24, 20], [24]), ([25], [25]), ([26, 25, 25], [25, 26]), ([27, 27, 25], [25, 27]), ([25], [25]), ([29, 28, 25], [25, 29]), ([28, 30, 30, 25], [25, 28, 30]), ([25, 31], [25, 31]), ([32, 31], [32]), ([33], [33]), ([34, 33, 33], [33, 34]), ([33, 35], [33, 35]), ([36, 35], [36]), ([37], [37]), ([38, 37], [37, 38]), ([39, 37, 37], [37, 39]), ([40, 37], [37, 40]), ([37, 41], [37, 41]), ([42, 40], [42]), ([43], [43]), ([43], [43]), ([44, 45, 43, 43], [43, 44, 45]), ([46, 43], [43, 46]), ([43, 47], [43, 47]), ([48, 46, 0, 1, 2, 3, 4, 5, 6, 7, 8, 9, 10, 11, 12, 13, 14, 15, 16, 17, 18, 19, 20, 21, 22, 23, 24, 25, 26, 27, 28, 29, 30, 31, 32, 33, 34, 35, 36, 37, 38, 39, 40, 41, 42, 43, 44, 45, 46, 47, 48], [48])])
def hallmootlaw22_sanity.B7 : List Nat := [0, 1, 3, 7, 15, 31, 63, 127, 255, 511, 1023, 2047, 4095, 8191, 16383, 32767, 65535, 131071, 262143, 524287, 524287, 1572863, 3670015, 8388607, 16777215, 33554431, 67108863, 134217727, 268435455, 67108863, 1073741823, 2147483647, 4294967295, 8589934591, 17179869183, 34359738367, 68719476735, 137438953471, 274877906943, 549755813887, 1099511627775, 2199023255551, 4398046511103, 8796093022207, 17592186044415, 17592186044415, 70368744177663, 140737488355327, 281474976710655, 562949953421311]
theorem hallmootlaw22_sanity.tab7 : rtab .any (opsOf Try.f7 7) = hallmootlaw22_sanity.T7 := by kernel_rfl
theorem hallmootlaw22_sanity.bits7 : waitsOk hallmootlaw22_sanity.T7.2 hallmootlaw22_sanity.B7 = true := by kernel_rfl
set_option maxHeartbeats 8000000 in
set_option maxRecDepth 100000 in
theorem hallmootlaw22_sanity.calls (k : Nat)  (r : Bool) (w : World) (h : hallmootlaw22_sanity.f k  = some r) : Calls Try.prog 7 #[] w fun e w' => e = .returned (.bool r) ∧ Below w.heap.size w w' := by
 have hu25 := Try.underlying25
 have HB := aS (Below.refl w.heap.size w)
 have H : ((disk_New.f 2).bind fun bt152 => ((hallmootlaw22_full.f k 97).bind fun t160 => ((dWrite.f bt152.1 bt152.2.1 1 t160).bind fun bt161 => ((dCrash.f bt161.1 bt161.2.1 (([2] : List Int))).bind fun bt172 => ((disk_Read.f bt172.1 bt172.2 1).bind fun bt179 => ((disk_Read.f bt172.1 bt172.2 2).bind fun bt181 => ((dWrite.f bt172.1 bt172.2 0 (⟨#[97]⟩ : ByteArray)).bind fun bt183 => (if bt152.2.2 = 0 then (if bt161.2.2 = 0 then (if bt179.2 = 0 then (if bt181.2 = 8 then (if bt183.2.2 = 1 then ((hallmootlaw22_full.f k 0).bind fun t191 => (if 2 ≤ (t191.size : Int) then (if 2 + (t191.extract 2 t191.size).size ≤ 9223372036854775807 then (if bt179.1.toList = ((⟨#[97, 97]⟩ : ByteArray) ++ (t191.extract 2 t191.size)).toList then ((disk_Sync.f bt161.1 bt161.2.1).bind fun bt192 => ((dCrash.f bt192.1 bt192.2 ([] : List Int)).bind fun bt198 => ((disk_Sync.f bt161.1 bt161.2.1).bind fun bt204 => ((disk_Same.f k bt198.1 bt198.2 bt204.1 bt204.2).bind fun t210 => (if t210 = true then ((dRight.f bt161.1 bt161.2.1).bind fun t211 => (if t211 = true then ((dRight.f (([(⟨#[]⟩ : ByteArray)] : List ByteArray)) ([] : List (S46))).bind fun t215 => (if t215 = true then (none) else ((disk_Same.f k bt161.1 bt161.2.1 bt152.1 bt152.2.1).bind fun t216 => (some (!t216))))) else (none))) else (none)))))) else (none)) else (none)) else (none))) else (none)) else (none)) else (none)) else (none)) else (none))))))))) = some r := h
 clear h
 replace H := Option.bind_eq_some_iff.mp H
 obtain ⟨⟨t152, t155, t158⟩, A10, H⟩ := H
 replace H : ((hallmootlaw22_full.f k 97).bind fun t160 => ((dWrite.f t152 t155 1 t160).bind fun bt161 => ((dCrash.f bt161.1 bt161.2.1 (([2] : List Int))).bind fun bt172 => ((disk_Read.f bt172.1 bt172.2 1).bind fun bt179 => ((disk_Read.f bt172.1 bt172.2 2).bind fun bt181 => ((dWrite.f bt172.1 bt172.2 0 (⟨#[97]⟩ : ByteArray)).bind fun bt183 => (if t158 = 0 then (if bt161.2.2 = 0 then (if bt179.2 = 0 then (if bt181.2 = 8 then (if bt183.2.2 = 1 then ((hallmootlaw22_full.f k 0).bind fun t191 => (if 2 ≤ (t191.size : Int) then (if 2 + (t191.extract 2 t191.size).size ≤ 9223372036854775807 then (if bt179.1.toList = ((⟨#[97, 97]⟩ : ByteArray) ++ (t191.extract 2 t191.size)).toList then ((disk_Sync.f bt161.1 bt161.2.1).bind fun bt192 => ((dCrash.f bt192.1 bt192.2 ([] : List Int)).bind fun bt198 => ((disk_Sync.f bt161.1 bt161.2.1).bind fun bt204 => ((disk_Same.f k bt198.1 bt198.2 bt204.1 bt204.2).bind fun t210 => (if t210 = true then ((dRight.f bt161.1 bt161.2.1).bind fun t211 => (if t211 = true then ((dRight.f (([(⟨#[]⟩ : ByteArray)] : List ByteArray)) ([] : List (S46))).bind fun t215 => (if t215 = true then (none) else ((disk_Same.f k bt161.1 bt161.2.1 t152 t155).bind fun t216 => (some (!t216))))) else (none))) else (none)))))) else (none)) else (none)) else (none))) else (none)) else (none)) else (none)) else (none)) else (none)))))))) = some r := H
 have A1 := aS A10
 clear A10
 replace H := Option.bind_eq_some_iff.mp H
 obtain ⟨t160, A20, H⟩ := H
 try (have hszn_t160 : ¬ (9223372036854775807 < 2 + (t160.size - 2)) := by have := full_sz A20; omega)
 replace H : ((dWrite.f t152 t155 1 t160).bind fun bt161 => ((dCrash.f bt161.1 bt161.2.1 (([2] : List Int))).bind fun bt172 => ((disk_Read.f bt172.1 bt172.2 1).bind fun bt179 => ((disk_Read.f bt172.1 bt172.2 2).bind fun bt181 => ((dWrite.f bt172.1 bt172.2 0 (⟨#[97]⟩ : ByteArray)).bind fun bt183 => (if t158 = 0 then (if bt161.2.2 = 0 then (if bt179.2 = 0 then (if bt181.2 = 8 then (if bt183.2.2 = 1 then ((hallmootlaw22_full.f k 0).bind fun t191 => (if 2 ≤ (t191.size : Int) then (if 2 + (t191.extract 2 t191.size).size ≤ 9223372036854775807 then (if bt179.1.toList = ((⟨#[97, 97]⟩ : ByteArray) ++ (t191.extract 2 t191.size)).toList then ((disk_Sync.f bt161.1 bt161.2.1).bind fun bt192 => ((dCrash.f bt192.1 bt192.2 ([] : List Int)).bind fun bt198 => ((disk_Sync.f bt161.1 bt161.2.1).bind fun bt204 => ((disk_Same.f k bt198.1 bt198.2 bt204.1 bt204.2).bind fun t210 => (if t210 = true then ((dRight.f bt161.1 bt161.2.1).bind fun t211 => (if t211 = true then ((dRight.f (([(⟨#[]⟩ : ByteArray)] : List ByteArray)) ([] : List (S46))).bind fun t215 => (if t215 = true then (none) else ((disk_Same.f k bt161.1 bt161.2.1 t152 t155).bind fun t216 => (some (!t216))))) else (none))) else (none)))))) else (none)) else (none)) else (none))) else (none)) else (none)) else (none)) else (none)) else (none))))))) = some r := H
 have A2 := aS A20
 clear A20
 replace H := Option.bind_eq_some_iff.mp H
 obtain ⟨⟨t161, t164, t167⟩, A30, H⟩ := H
 replace H : ((dCrash.f t161 t164 (([2] : List Int))).bind fun bt172 => ((disk_Read.f bt172.1 bt172.2 1).bind fun bt179 => ((disk_Read.f bt172.1 bt172.2 2).bind fun bt181 => ((dWrite.f bt172.1 bt172.2 0 (⟨#[97]⟩ : ByteArray)).bind fun bt183 => (if t158 = 0 then (if t167 = 0 then (if bt179.2 = 0 then (if bt181.2 = 8 then (if bt183.2.2 = 1 then ((hallmootlaw22_full.f k 0).bind fun t191 => (if 2 ≤ (t191.size : Int) then (if 2 + (t191.extract 2 t191.size).size ≤ 9223372036854775807 then (if bt179.1.toList = ((⟨#[97, 97]⟩ : ByteArray) ++ (t191.extract 2 t191.size)).toList then ((disk_Sync.f t161 t164).bind fun bt192 => ((dCrash.f bt192.1 bt192.2 ([] : List Int)).bind fun bt198 => ((disk_Sync.f t161 t164).bind fun bt204 => ((disk_Same.f k bt198.1 bt198.2 bt204.1 bt204.2).bind fun t210 => (if t210 = true then ((dRight.f t161 t164).bind fun t211 => (if t211 = true then ((dRight.f (([(⟨#[]⟩ : ByteArray)] : List ByteArray)) ([] : List (S46))).bind fun t215 => (if t215 = true then (none) else ((disk_Same.f k t161 t164 t152 t155).bind fun t216 => (some (!t216))))) else (none))) else (none)))))) else (none)) else (none)) else (none))) else (none)) else (none)) else (none)) else (none)) else (none)))))) = some r := H
 have A3 := aS A30
 clear A30
 obtain ⟨y169, hy169⟩ : ∃ y_ : List Int, y_ = (([2] : List Int)) := ⟨_, rfl⟩
 replace H : ((dCrash.f t161 t164 y169).bind fun bt172 => ((disk_Read.f bt172.1 bt172.2 1).bind fun bt179 => ((disk_Read.f bt172.1 bt172.2 2).bind fun bt181 => ((dWrite.f bt172.1 bt172.2 0 (⟨#[97]⟩ : ByteArray)).bind fun bt183 => (if t158 = 0 then (if t167 = 0 then (if bt179.2 = 0 then (if bt181.2 = 8 then (if bt183.2.2 = 1 then ((hallmootlaw22_full.f k 0).bind fun t191 => (if 2 ≤ (t191.size : Int) then (if 2 + (t191.extract 2 t191.size).size ≤ 9223372036854775807 then (if bt179.1.toList = ((⟨#[97, 97]⟩ : ByteArray) ++ (t191.extract 2 t191.size)).toList then ((disk_Sync.f t161 t164).bind fun bt192 => ((dCrash.f bt192.1 bt192.2 ([] : List Int)).bind fun bt198 => ((disk_Sync.f t161 t164).bind fun bt204 => ((disk_Same.f k bt198.1 bt198.2 bt204.1 bt204.2).bind fun t210 => (if t210 = true then ((dRight.f t161 t164).bind fun t211 => (if t211 = true then ((dRight.f (([(⟨#[]⟩ : ByteArray)] : List ByteArray)) ([] : List (S46))).bind fun t215 => (if t215 = true then (none) else ((disk_Same.f k t161 t164 t152 t155).bind fun t216 => (some (!t216))))) else (none))) else (none)))))) else (none)) else (none)) else (none))) else (none)) else (none)) else (none)) else (none)) else (none)))))) = some r := by first | (rw [hy169]; with_reducible exact H) | (have H2_ := (Option.bind_some _ _).symm.trans H; rw [hy169]; with_reducible exact H2_) | (have H2_ := (Option.bind_some _ _).symm.trans H; with_reducible exact H2_) | with_reducible exact H | (rw [hy169]; exact H) | exact H
 have Ny169 := aS hy169
 clear hy169
 replace H := Option.bind_eq_some_iff.mp H
 obtain ⟨⟨t172, t175⟩, A40, H⟩ := H
 replace H : ((disk_Read.f t172 t175 1).bind fun bt179 => ((disk_Read.f t172 t175 2).bind fun bt181 => ((dWrite.f t172 t175 0 (⟨#[97]⟩ : ByteArray)).bind fun bt183 => (if t158 = 0 then (if t167 = 0 then (if bt179.2 = 0 then (if bt181.2 = 8 then (if bt183.2.2 = 1 then ((hallmootlaw22_full.f k 0).bind fun t191 => (if 2 ≤ (t191.size : Int) then (if 2 + (t191.extract 2 t191.size).size ≤ 9223372036854775807 then (if bt179.1.toList = ((⟨#[97, 97]⟩ : ByteArray) ++ (t191.extract 2 t191.size)).toList then ((disk_Sync.f t161 t164).bind fun bt192 => ((dCrash.f bt192.1 bt192.2 ([] : List Int)).bind fun bt198 => ((disk_Sync.f t161 t164).bind fun bt204 => ((disk_Same.f k bt198.1 bt198.2 bt204.1 bt204.2).bind fun t210 => (if t210 = true then ((dRight.f t161 t164).bind fun t211 => (if t211 = true then ((dRight.f (([(⟨#[]⟩ : ByteArray)] : List ByteArray)) ([] : List (S46))).bind fun t215 => (if t215 = true then (none) else ((disk_Same.f k t161 t164 t152 t155).bind fun t216 => (some (!t216))))) else (none))) else (none)))))) else (none)) else (none)) else (none))) else (none)) else (none)) else (none)) else (none)) else (none))))) = some r := H
 have A4 := aS A40
 clear A40
 replace H := Option.bind_eq_some_iff.mp H
 obtain ⟨⟨t179, t180⟩, A50, H⟩ := H
 replace H : ((disk_Read.f t172 t175 2).bind fun bt181 => ((dWrite.f t172 t175 0 (⟨#[97]⟩ : ByteArray)).bind fun bt183 => (if t158 = 0 then (if t167 = 0 then (if t180 = 0 then (if bt181.2 = 8 then (if bt183.2.2 = 1 then ((hallmootlaw22_full.f k 0).bind fun t191 => (if 2 ≤ (t191.size : Int) then (if 2 + (t191.extract 2 t191.size).size ≤ 9223372036854775807 then (if t179.toList = ((⟨#[97, 97]⟩ : ByteArray) ++ (t191.extract 2 t191.size)).toList then ((disk_Sync.f t161 t164).bind fun bt192 => ((dCrash.f bt192.1 bt192.2 ([] : List Int)).bind fun bt198 => ((disk_Sync.f t161 t164).bind fun bt204 => ((disk_Same.f k bt198.1 bt198.2 bt204.1 bt204.2).bind fun t210 => (if t210 = true then ((dRight.f t161 t164).bind fun t211 => (if t211 = true then ((dRight.f (([(⟨#[]⟩ : ByteArray)] : List ByteArray)) ([] : List (S46))).bind fun t215 => (if t215 = true then (none) else ((disk_Same.f k t161 t164 t152 t155).bind fun t216 => (some (!t216))))) else (none))) else (none)))))) else (none)) else (none)) else (none))) else (none)) else (none)) else (none)) else (none)) else (none)))) = some r := H
 have A5 := aS A50
 clear A50
 replace H := Option.bind_eq_some_iff.mp H
 obtain ⟨⟨t181, t182⟩, A60, H⟩ := H
 replace H : ((dWrite.f t172 t175 0 (⟨#[97]⟩ : ByteArray)).bind fun bt183 => (if t158 = 0 then (if t167 = 0 then (if t180 = 0 then (if t182 = 8 then (if bt183.2.2 = 1 then ((hallmootlaw22_full.f k 0).bind fun t191 => (if 2 ≤ (t191.size : Int) then (if 2 + (t191.extract 2 t191.size).size ≤ 9223372036854775807 then (if t179.toList = ((⟨#[97, 97]⟩ : ByteArray) ++ (t191.extract 2 t191.size)).toList then ((disk_Sync.f t161 t164).bind fun bt192 => ((dCrash.f bt192.1 bt192.2 ([] : List Int)).bind fun bt198 => ((disk_Sync.f t161 t164).bind fun bt204 => ((disk_Same.f k bt198.1 bt198.2 bt204.1 bt204.2).bind fun t210 => (if t210 = true then ((dRight.f t161 t164).bind fun t211 => (if t211 = true then ((dRight.f (([(⟨#[]⟩ : ByteArray)] : List ByteArray)) ([] : List (S46))).bind fun t215 => (if t215 = true then (none) else ((disk_Same.f k t161 t164 t152 t155).bind fun t216 => (some (!t216))))) else (none))) else (none)))))) else (none)) else (none)) else (none))) else (none)) else (none)) else (none)) else (none)) else (none))) = some r := H
 have A6 := aS A60
 clear A60
 replace H := Option.bind_eq_some_iff.mp H
 obtain ⟨⟨t183, t186, t189⟩, A70, H⟩ := H
 replace H : (if t158 = 0 then (if t167 = 0 then (if t180 = 0 then (if t182 = 8 then (if t189 = 1 then ((hallmootlaw22_full.f k 0).bind fun t191 => (if 2 ≤ (t191.size : Int) then (if 2 + (t191.extract 2 t191.size).size ≤ 9223372036854775807 then (if t179.toList = ((⟨#[97, 97]⟩ : ByteArray) ++ (t191.extract 2 t191.size)).toList then ((disk_Sync.f t161 t164).bind fun bt192 => ((dCrash.f bt192.1 bt192.2 ([] : List Int)).bind fun bt198 => ((disk_Sync.f t161 t164).bind fun bt204 => ((disk_Same.f k bt198.1 bt198.2 bt204.1 bt204.2).bind fun t210 => (if t210 = true then ((dRight.f t161 t164).bind fun t211 => (if t211 = true then ((dRight.f (([(⟨#[]⟩ : ByteArray)] : List ByteArray)) ([] : List (S46))).bind fun t215 => (if t215 = true then (none) else ((disk_Same.f k t161 t164 t152 t155).bind fun t216 => (some (!t216))))) else (none))) else (none)))))) else (none)) else (none)) else (none))) else (none)) else (none)) else (none)) else (none)) else (none)) = some r := H
 have A7 := aS A70
 clear A70
 by_cases c8 : t158 = 0
 {
 rw [if_pos c8] at H
 have c8b0 : (t158 == 0) = true := beq_iff_eq.mpr c8
 have c8b1 : (t158 != 0) = false := bne_eq_false_iff_eq.mpr c8
 clear c8
 by_cases c9 : t167 = 0
 {
 rw [if_pos c9] at H
 have c9b0 : (t167 == 0) = true := beq_iff_eq.mpr c9
 have c9b1 : (t167 != 0) = false := bne_eq_false_iff_eq.mpr c9
 clear c9
 by_cases c10 : t180 = 0
 {
 rw [if_pos c10] at H
 have c10b0 : (t180 == 0) = true := beq_iff_eq.mpr c10
 have c10b1 : (t180 != 0) = false := bne_eq_false_iff_eq.mpr c10
 clear c10
 by_cases c11 : t182 = 8
 {
 rw [if_pos c11] at H
 have c11b0 : (t182 == 8) = true := beq_iff_eq.mpr c11
 have c11b1 : (t182 != 8) = false := bne_eq_false_iff_eq.mpr c11
 clear c11
 by_cases c12 : t189 = 1
 {
 rw [if_pos c12] at H
 have c12b0 : (t189 == 1) = true := beq_iff_eq.mpr c12
 have c12b1 : (t189 != 1) = false := bne_eq_false_iff_eq.mpr c12
 clear c12
 replace H := Option.bind_eq_some_iff.mp H
 obtain ⟨t191, A130, H⟩ := H
 try (have hszn_t191 : ¬ (9223372036854775807 < 2 + (t191.size - 2)) := by have := full_sz A130; omega)
 replace H : (if 2 ≤ (t191.size : Int) then (if 2 + (t191.extract 2 t191.size).size ≤ 9223372036854775807 then (if t179.toList = ((⟨#[97, 97]⟩ : ByteArray) ++ (t191.extract 2 t191.size)).toList then ((disk_Sync.f t161 t164).bind fun bt192 => ((dCrash.f bt192.1 bt192.2 ([] : List Int)).bind fun bt198 => ((disk_Sync.f t161 t164).bind fun bt204 => ((disk_Same.f k bt198.1 bt198.2 bt204.1 bt204.2).bind fun t210 => (if t210 = true then ((dRight.f t161 t164).bind fun t211 => (if t211 = true then ((dRight.f (([(⟨#[]⟩ : ByteArray)] : List ByteArray)) ([] : List (S46))).bind fun t215 => (if t215 = true then (none) else ((disk_Same.f k t161 t164 t152 t155).bind fun t216 => (some (!t216))))) else (none))) else (none)))))) else (none)) else (none)) else (none)) = some r := H
 have A13 := aS A130
 clear A130
 by_cases c14 : 2 ≤ (t191.size : Int)
 {
 rw [if_pos c14] at H
 have c14b0 := eq_true c14
 have c14b1 : decide (2 ≤ (t191.size : Int)) = true := decide_eq_true c14
 clear c14
 by_cases c15 : 2 + (t191.extract 2 t191.size).size ≤ 9223372036854775807
 {
 rw [if_pos c15] at H
 have c15b0 := eq_true c15
 have c15b1 : decide (2 + (t191.extract 2 t191.size).size ≤ 9223372036854775807) = true := decide_eq_true c15
 try have c15b2 : (9223372036854775807 < 2 + (t191.extract 2 t191.size).size) = False := eq_false (Nat.not_lt.2 c15)
 by_cases c16 : t179.toList = ((⟨#[97, 97]⟩ : ByteArray) ++ (t191.extract 2 t191.size)).toList
 {
 rw [if_pos c16] at H
 have c16b0 : (t179.toList == ((⟨#[97, 97]⟩ : ByteArray) ++ (t191.extract 2 t191.size)).toList) = true := beq_iff_eq.mpr c16
 have c16b1 : (t179.toList != ((⟨#[97, 97]⟩ : ByteArray) ++ (t191.extract 2 t191.size)).toList) = false := bne_eq_false_iff_eq.mpr c16
 clear c16
 replace H := Option.bind_eq_some_iff.mp H
 obtain ⟨⟨t192, t195⟩, A170, H⟩ := H
 replace H : ((dCrash.f t192 t195 ([] : List Int)).bind fun bt198 => ((disk_Sync.f t161 t164).bind fun bt204 => ((disk_Same.f k bt198.1 bt198.2 bt204.1 bt204.2).bind fun t210 => (if t210 = true then ((dRight.f t161 t164).bind fun t211 => (if t211 = true then ((dRight.f (([(⟨#[]⟩ : ByteArray)] : List ByteArray)) ([] : List (S46))).bind fun t215 => (if t215 = true then (none) else ((disk_Same.f k t161 t164 t152 t155).bind fun t216 => (some (!t216))))) else (none))) else (none))))) = some r := H
 have A17 := aS A170
 clear A170
 replace H := Option.bind_eq_some_iff.mp H
 obtain ⟨⟨t198, t201⟩, A180, H⟩ := H
 replace H : ((disk_Sync.f t161 t164).bind fun bt204 => ((disk_Same.f k t198 t201 bt204.1 bt204.2).bind fun t210 => (if t210 = true then ((dRight.f t161 t164).bind fun t211 => (if t211 = true then ((dRight.f (([(⟨#[]⟩ : ByteArray)] : List ByteArray)) ([] : List (S46))).bind fun t215 => (if t215 = true then (none) else ((disk_Same.f k t161 t164 t152 t155).bind fun t216 => (some (!t216))))) else (none))) else (none)))) = some r := H
 have A18 := aS A180
 clear A180
 replace H := Option.bind_eq_some_iff.mp H
 obtain ⟨⟨t204, t207⟩, A190, H⟩ := H
 replace H : ((disk_Same.f k t198 t201 t204 t207).bind fun t210 => (if t210 = true then ((dRight.f t161 t164).bind fun t211 => (if t211 = true then ((dRight.f (([(⟨#[]⟩ : ByteArray)] : List ByteArray)) ([] : List (S46))).bind fun t215 => (if t215 = true then (none) else ((disk_Same.f k t161 t164 t152 t155).bind fun t216 => (some (!t216))))) else (none))) else (none))) = some r := H
 have A19 := aS A190
 clear A190
 replace H := Option.bind_eq_some_iff.mp H
 obtain ⟨t210, A200, H⟩ := H
 try (have hszn_t210 : ¬ (9223372036854775807 < 2 + (t210.size - 2)) := by have := full_sz A200; omega)
 replace H : (if t210 = true then ((dRight.f t161 t164).bind fun t211 => (if t211 = true then ((dRight.f (([(⟨#[]⟩ : ByteArray)] : List ByteArray)) ([] : List (S46))).bind fun t215 => (if t215 = true then (none) else ((disk_Same.f k t161 t164 t152 t155).bind fun t216 => (some (!t216))))) else (none))) else (none)) = some r := H
 have A20 := aS A200
 clear A200
 by_cases c21 : t210 = true
 {
 subst c21
 have H1 : ((dRight.f t161 t164).bind fun t211 => (if t211 = true then ((dRight.f (([(⟨#[]⟩ : ByteArray)] : List ByteArray)) ([] : List (S46))).bind fun t215 => (if t215 = true then (none) else ((disk_Same.f k t161 t164 t152 t155).bind fun t216 => (some (!t216))))) else (none))) = some r := by rw [if_pos rfl] at H; exact H
 clear H
 have H := H1
 clear H1
 replace H := Option.bind_eq_some_iff.mp H
 obtain ⟨t211, A220, H⟩ := H
 try (have hszn_t211 : ¬ (9223372036854775807 < 2 + (t211.size - 2)) := by have := full_sz A220; omega)
 replace H : (if t211 = true then ((dRight.f (([(⟨#[]⟩ : ByteArray)] : List ByteArray)) ([] : List (S46))).bind fun t215 => (if t215 = true then (none) else ((disk_Same.f k t161 t164 t152 t155).bind fun t216 => (some (!t216))))) else (none)) = some r := H
 have A22 := aS A220
 clear A220
 by_cases c23 : t211 = true
 {
 subst c23
 have H1 : ((dRight.f (([(⟨#[]⟩ : ByteArray)] : List ByteArray)) ([] : List (S46))).bind fun t215 => (if t215 = true then (none) else ((disk_Same.f k t161 t164 t152 t155).bind fun t216 => (some (!t216))))) = some r := by rw [if_pos rfl] at H; exact H
 clear H
 have H := H1
 clear H1
 obtain ⟨y212, hy212⟩ : ∃ y_ : List ByteArray, y_ = (([(⟨#[]⟩ : ByteArray)] : List ByteArray)) := ⟨_, rfl⟩
 replace H : ((dRight.f y212 ([] : List (S46))).bind fun t215 => (if t215 = true then (none) else ((disk_Same.f k t161 t164 t152 t155).bind fun t216 => (some (!t216))))) = some r := by first | (rw [hy212]; with_reducible exact H) | (have H2_ := (Option.bind_some _ _).symm.trans H; rw [hy212]; with_reducible exact H2_) | (have H2_ := (Option.bind_some _ _).symm.trans H; with_reducible exact H2_) | with_reducible exact H | (rw [hy212]; exact H) | exact H
 have Ny212 := aS hy212
 clear hy212
 replace H := Option.bind_eq_some_iff.mp H
 obtain ⟨t215, A240, H⟩ := H
 try (have hszn_t215 : ¬ (9223372036854775807 < 2 + (t215.size - 2)) := by have := full_sz A240; omega)
 replace H : (if t215 = true then (none) else ((disk_Same.f k t161 t164 t152 t155).bind fun t216 => (some (!t216)))) = some r := H
 have A24 := aS A240
 clear A240
 by_cases c25 : t215 = true
 {
 subst c25
 have H1 : (none) = some r := by rw [if_pos rfl] at H; exact H
 clear H
 have H := H1
 clear H1
 exact absurd H (by simp) }
 {
 replace c25 := Bool.eq_false_iff.mpr c25
 subst c25
 have H1 : ((disk_Same.f k t161 t164 t152 t155).bind fun t216 => (some (!t216))) = some r := by rw [if_neg (show ¬ (false = true) by decide)] at H; exact H
 clear H
 have H := H1
 clear H1
 replace H := Option.bind_eq_some_iff.mp H
 obtain ⟨t216, A260, H⟩ := H
 try (have hszn_t216 : ¬ (9223372036854775807 < 2 + (t216.size - 2)) := by have := full_sz A260; omega)
 replace H : (some (!t216)) = some r := H
 have A26 := aS A260
 clear A260
 obtain rfl := Option.some.inj H
 go_enter Try.func7, Try.ntmps7
 try go_wp2_with (first | ((with_reducible refine gate_callee (f := 9) rfl ?_); refine goesL_ (some 13) rfl rfl Try.func9 (by kernel_rfl) rfl #[.int .i64 2] rfl (by (try simp only [List.map_toArray, List.map_cons, List.map_nil]); first | done | rfl | (simp only [List.length_drop, List.length_take]; rfl)) ?_; (with_reducible refine (disk_New.calls 2 t152 t155 t158 _ A1.out).mono ?_); rintro e w27 ⟨v153, v156, rfl, ho0, ho1, hb⟩; refine ⟨_, rfl, ?_⟩; have n0_ := aS (Kd.R_lower ho0 bz); have n1_ := aS (Kd.R_lower ho1 bz); have n2_ := aS (below_step bb hb); clear HB; have HO154 := n0_; have HO157 := n1_; have HB := n2_; clear n0_ n1_ n2_; (try clear hb); (try clear hb2); (try clear hk); (try clear hi); (try clear ho0); (try clear ho1)) | ((with_reducible refine gate_dst (N := 1) rfl ?_); (try (refine gate_guard (by rfl) ?_; dsimp only)); refine box_event ?hg (N := 1) ?hd (cs := #[.slice none 0 0, .slice none 0 0]) (t := 25) ?hr ?_; (case hd => rfl); (case hg => rfl); (case hr => first | (go_simp; done) | (go_simp; rfl)); intro gb159 hg w28 hbox hb; have n0_ := aS (Kd.R_below (rr HO154.out) hb); have n1_ := aS (Kd.R_below (rr HO157.out) hb); have n2_ := aS (below_step bb hb); have n3_ := aS (hbox); have n4_ := aS ((by rw [hg]; exact bz : w.heap.size ≤ gb159)); have n5_ := aS ((by rw [hg]; exact bz : w.heap.size ≤ gb159)); clear HO154; clear HO157; clear HB; have HO154 := n0_; have HO157 := n1_; have HB := n2_; have BK159 := n3_; have GW159 := n4_; have GE159 := n5_; clear n0_ n1_ n2_ n3_ n4_ n5_; clear hb hbox hg; obtain ⟨Ao29, co29, eo29⟩ := Kd.R_slice HO154.out; subst eo29; have hcz30_0 : w28.cell? ⟨gb159, 0, none⟩ = some (.slice none 0 0) := (blk_cell BK159.out 0).trans rfl; have hcz30_1 : w28.cell? ⟨gb159, 1, none⟩ = some (.slice none 0 0) := (blk_cell BK159.out 1).trans rfl; have hfz30_0 := blk_frozen BK159.out 0; have hfz30_1 := blk_frozen BK159.out 1; obtain ⟨Ao31, co31, eo31⟩ := Kd.R_slice HO157.out; subst eo31))
 have n0_ : Aside0 (Kd.R Kd.string 9 ((w28.setCell ⟨gb159, 0, none⟩ (.slice Ao29 t152.length co29)).setCell ⟨gb159, 1, none⟩ (.slice Ao31 t155.length co31)) w.heap.size (fun _ => True) (.slice Ao29 t152.length co29) t152) := ⟨by (with_reducible repeat (first | apply Kd.R_alloc | apply Kd.R_drewN | apply Kd.R_drew)); exact Kd.R_mono (Kd.R_far (p := ⟨gb159, 1, none⟩) (Kd.R_far (p := ⟨gb159, 0, none⟩) (Kd.R_types HO154.out BK159.out (by decide)) (fun _ hk => hk.2) (.slice Ao29 t152.length co29)) (fun _ hk => hk.2) (.slice Ao31 t155.length co31)) (fun _ hk => trivial)⟩
 have n1_ : Aside0 (Kd.R k46 46 ((w28.setCell ⟨gb159, 0, none⟩ (.slice Ao29 t152.length co29)).setCell ⟨gb159, 1, none⟩ (.slice Ao31 t155.length co31)) w.heap.size (fun _ => True) (.slice Ao31 t155.length co31) t155) := ⟨by (with_reducible repeat (first | apply Kd.R_alloc | apply Kd.R_drewN | apply Kd.R_drew)); exact Kd.R_mono (Kd.R_far (p := ⟨gb159, 1, none⟩) (Kd.R_far (p := ⟨gb159, 0, none⟩) (Kd.R_types HO157.out BK159.out (by decide)) (fun _ hk => hk.2) (.slice Ao29 t152.length co29)) (fun _ hk => hk.2) (.slice Ao31 t155.length co31)) (fun _ hk => trivial)⟩
 have n2_ : Aside0 (((w28.setCell ⟨gb159, 0, none⟩ (.slice Ao29 t152.length co29)).setCell ⟨gb159, 1, none⟩ (.slice Ao31 t155.length co31)).heap[gb159]? = some (.cells #[.slice Ao29 t152.length co29, .slice Ao31 t155.length co31] 25 (0, 0))) := ⟨by (with_reducible repeat (first | refine blk_drewN ?_ _ | refine blk_drew ?_ | refine blk_alloc ?_ _)); refine blk_put (cs := #[.slice Ao29 t152.length co29, .slice none 0 0]) ?_ 1 _ rfl; (with_reducible repeat (first | refine blk_drewN ?_ _ | refine blk_drew ?_ | refine blk_alloc ?_ _)); refine blk_put (cs := #[.slice none 0 0, .slice none 0 0]) ?_ 0 _ rfl; (with_reducible repeat (first | refine blk_drewN ?_ _ | refine blk_drew ?_ | refine blk_alloc ?_ _)); exact BK159.out⟩
 have n3_ : Aside0 (Below w.heap.size w ((w28.setCell ⟨gb159, 0, none⟩ (.slice Ao29 t152.length co29)).setCell ⟨gb159, 1, none⟩ (.slice Ao31 t155.length co31))) := ⟨by repeat (first | (with_reducible first | exact HB.out | apply below_alloc | apply pw_below_drewN | apply below_drew1 | refine below_set ?_ GE159.out) | exact HB.out)⟩
 (try clear HO154)
 (try clear HO157)
 (try clear BK159)
 (try clear HB)
 generalize ((w28.setCell ⟨gb159, 0, none⟩ (.slice Ao29 t152.length co29)).setCell ⟨gb159, 1, none⟩ (.slice Ao31 t155.length co31)) = w32 at n0_ n1_ n2_ n3_ ⊢
 have HO154 := n0_
 have HO157 := n1_
 have BK159 := n2_
 have HB := n3_
 clear n0_ n1_ n2_ n3_
 have n0_ := aS (Kd.R_drew HO154.out)
 have n1_ := aS (Kd.R_drew HO157.out)
 have n2_ := aS (blk_drew BK159.out)
 have n3_ := aS (below_drew1 HB.out)
 clear HO154
 clear HO157
 clear BK159
 clear HB
 have HO154 := n0_
 have HO157 := n1_
 have BK159 := n2_
 have HB := n3_
 clear n0_ n1_ n2_ n3_
 refine start_ (n := 9) (S := fun w' => w'.cell? ⟨gb159, 0, none⟩ = some (.slice Ao29 t152.length co29) ∧ w'.cell? ⟨gb159, 1, none⟩ = some (.slice Ao31 t155.length co31)) (ds := []) #[false, false, false, false, false, false, false, false, false] (by kernel_rfl) rfl rfl ⟨(blk_cell BK159.out 0).trans rfl, (blk_cell BK159.out 1).trans rfl⟩ (fun hHeld => ?_); refine with_tabW hallmootlaw22_sanity.tab2 hallmootlaw22_sanity.bits2 (fun HT_ HW_ => ?_)
 generalize w32.drew = w33 at HO154 HO157 BK159 HB hHeld ⊢
 refine take_ (i := 0) (N := some 17) (v := ?_) (a' := ?_) #[true, false, false, false, false, false, false, false, false] rfl rfl (take_ofW HT_.out HW_.out (by kernel_rfl)) (fun _ _ _ h => h) (Or.inl ⟨by rfl, ?_⟩) hHeld ?_ ?_
 rotate_left
 {
 rintro w' ⟨s0, s1⟩
 go_simp
 with_reducible rfl }
 rotate_left
 {
 simp only [Act.put, sT, s0, s1, i64_w, i32_w]
 rfl }
 refine join_ (σ := Value × Value × Nat) 2 #[true, true, true, true, true, true, true, false, false] (fun s_ => [(18, .string t160), (19, .tuple #[.agg #[s_.1, s_.2.1], .int .i64 t167]), (3, .pointer (some ⟨s_.2.2, 0, none⟩)), (16, .tuple #[.agg #[s_.1, s_.2.1], .int .i64 t167]), (20, .agg #[s_.1, s_.2.1]), (21, .int .i64 t167)]) (fun s_ w' => (w'.cell? ⟨gb159, 0, none⟩ = some (.slice Ao29 t152.length co29) ∧ w'.cell? ⟨gb159, 1, none⟩ = some (.slice Ao31 t155.length co31)) ∧ (Kd.R Kd.string 9 w' w.heap.size (fun _ => True) (.slice Ao29 t152.length co29) t152) ∧ (Kd.R k46 46 w' w.heap.size (fun _ => True) (.slice Ao31 t155.length co31) t155) ∧ (Kd.V Kd.string 9 w' w.heap.size (fun k_ => k_ ≠ gb159 ∧ k_ ≠ s_.2.2) s_.1 t161) ∧ (Kd.V k46 46 w' w.heap.size (fun k_ => k_ ≠ gb159 ∧ k_ ≠ s_.2.2) s_.2.1 t164) ∧ (w'.heap[gb159]? = some (.cells #[.slice Ao29 t152.length co29, .slice Ao31 t155.length co31] 25 (0, 0))) ∧ (w'.heap[s_.2.2]? = some (.cells #[.slice none 0 0, .slice none 0 0] 25 (0, 0))) ∧ (w.heap.size ≤ s_.2.2) ∧ (w.heap.size ≤ s_.2.2) ∧ (gb159 ≠ s_.2.2) ∧ (s_.2.2 ≠ gb159) ∧ (Below w.heap.size w w')) ?_ ?_
 rotate_left
 {
 intro hCont
 refine two_ (i := 1) (j := 6) (Ni := some 18) (Nj := some 3) #[true, true, false, false, false, false, false, false, false] #[true, false, false, false, false, false, true, false, false] rfl rfl rfl rfl (two_of HT_.out (by kernel_rfl)) (by decide) (by decide) (fun K hK => ?_) (fun K hK => ?_)
 {
 skip
 refine goes_ Try.func24 (by kernel_rfl) rfl #[.int .u8 97] (by rfl) rfl rfl (by (try simp only [List.map_toArray, List.map_cons, List.map_nil]); first | done | rfl | (simp only [List.length_drop, List.length_take]; rfl)) ?_
 with_reducible refine (hallmootlaw22_full.calls k 97 t160 _ A2.out).mono ?_
 rintro e w34 ⟨rfl, hb⟩
 refine ⟨_, rfl, ?_⟩
 have n0_ := aS (Kd.R_below (rr HO154.out) hb)
 have n1_ := aS (Kd.R_below (rr HO157.out) hb)
 have n2_ := aS (kb BK159.out hb)
 have n3_ := aS (below_step bb hb)
 clear HO154
 clear HO157
 clear BK159
 clear HB
 have HO154 := n0_
 have HO157 := n1_
 have BK159 := n2_
 have HB := n3_
 clear n0_ n1_ n2_ n3_
 (try clear hb)
 (try clear hb2)
 (try clear hk)
 (try clear hi)
 refine hK.out _ _ ⟨(blk_cell BK159.out 0).trans rfl, (blk_cell BK159.out 1).trans rfl⟩ (fun hHeld => ?_)
 clear hK K
 refine norm_ (a' := ?_) ?_ ?_
 rotate_left
 {
 show Act.put _ (some 18) _ = _
 simp only [Act.put, sT, s0, s1, i64_w, i32_w]
 rfl }
 refine two_ (i := 2) (j := 6) (Ni := some 19) (Nj := some 3) #[true, true, true, false, false, false, false, false, false] #[true, true, false, false, false, false, true, false, false] rfl rfl rfl rfl (two_of HT_.out (by kernel_rfl)) (by decide) (by decide) (fun K hK => ?_) (fun K hK => ?_)
 {
 skip
 refine goes_ Try.func17 (by kernel_rfl) rfl #[.agg #[.slice Ao29 t152.length co29, .slice Ao31 t155.length co31], .int .i64 1, .string t160] (by rfl) rfl rfl (by (try simp only [List.map_toArray, List.map_cons, List.map_nil]); first | done | rfl | (simp only [List.length_drop, List.length_take]; rfl)) ?_
 with_reducible refine (dWrite.calls (fun k_ => some k_ = (.slice Ao29 t152.length co29 : Value).ownBlock) _ _ t152 (fun k_ => some k_ = (.slice Ao31 t155.length co31 : Value).ownBlock) _ _ t155 1 t160 t161 t164 t167 _ ?side1 ?side2 A3.out).mono ?_
 (case side1 => exact Kd.R_V (Kd.R_tight rfl (Kd.R_types (Kd.R_apart' (HO154.out) (Kd.R_typed HO157.out) (by decide)) BK159.out (by decide))))
 (case side2 => exact Kd.R_V (Kd.R_tight rfl (Kd.R_types (Kd.R_apart' (HO157.out) (Kd.R_typed HO154.out) (by decide)) BK159.out (by decide))))
 rintro e w35 ⟨v162, v165, rfl, ho0, ho1, hb⟩
 refine ⟨_, rfl, ?_⟩
 have n0_ := aS (Kd.R_below (rr HO154.out) hb)
 have n1_ := aS (Kd.R_below (rr HO157.out) hb)
 have n2_ := aS (Kd.V_lower (Kd.V_mono (ok' := fun k_ => k_ ≠ gb159) ho0 (fun k_ hk_ => Or.elim hk_ (fun hs_ => Or.elim hs_ (fun hs_ => ((Kd.R_types (Kd.R_apart' (HO154.out) (Kd.R_typed HO157.out) (by decide)) BK159.out (by decide)).1 k_ hs_.symm).2) (fun hs_ => ((Kd.R_types (Kd.R_apart' (HO157.out) (Kd.R_typed HO154.out) (by decide)) BK159.out (by decide)).1 k_ hs_.symm).2)) (fun hn_ => (Kd.freshB (g := gb159) (o := .cells #[.slice Ao29 t152.length co29, .slice Ao31 t155.length co31] 25 (0, 0)) (kk BK159.out) k_ hn_)))) bz)
 have n3_ := aS (Kd.V_lower (Kd.V_mono (ok' := fun k_ => k_ ≠ gb159) ho1 (fun k_ hk_ => Or.elim hk_ (fun hs_ => Or.elim hs_ (fun hs_ => ((Kd.R_types (Kd.R_apart' (HO154.out) (Kd.R_typed HO157.out) (by decide)) BK159.out (by decide)).1 k_ hs_.symm).2) (fun hs_ => ((Kd.R_types (Kd.R_apart' (HO157.out) (Kd.R_typed HO154.out) (by decide)) BK159.out (by decide)).1 k_ hs_.symm).2)) (fun hn_ => (Kd.freshB (g := gb159) (o := .cells #[.slice Ao29 t152.length co29, .slice Ao31 t155.length co31] 25 (0, 0)) (kk BK159.out) k_ hn_)))) bz)
 have n4_ := aS (kb BK159.out hb)
 have n5_ := aS (below_step bb hb)
 clear HO154
 clear HO157
 clear BK159
 clear HB
 have HO154 := n0_
 have HO157 := n1_
 have HO163 := n2_
 have HO166 := n3_
 have BK159 := n4_
 have HB := n5_
 clear n0_ n1_ n2_ n3_ n4_ n5_
 (try clear hb)
 (try clear hb2)
 (try clear hk)
 (try clear hi)
 (try clear ho0)
 (try clear ho1)
 refine hK.out _ _ ⟨(blk_cell BK159.out 0).trans rfl, (blk_cell BK159.out 1).trans rfl⟩ (fun hHeld => ?_)
 clear hK K
 refine norm_ (a' := ?_) ?_ ?_
 rotate_left
 {
 show Act.put _ (some 19) _ = _
 simp only [Act.put, sT, s0, s1, i64_w, i32_w]
 rfl }
 refine pure_ (i := 3) (N := some 16) (v := ?_) (a' := ?_) #[true, true, true, true, false, false, false, false, false] rfl rfl (any_of HT_.out (by kernel_rfl)) (fun _ _ _ h => h) (Or.inl ⟨by rfl, ?_⟩) ?_ ?_
 rotate_left
 {
 intro w'
 go_simp
 with_reducible rfl }
 rotate_left
 {
 simp only [Act.put, sT, s0, s1, i64_w, i32_w]
 rfl }
 refine pure_ (i := 4) (N := some 20) (v := ?_) (a' := ?_) #[true, true, true, true, true, false, false, false, false] rfl rfl (any_of HT_.out (by kernel_rfl)) (fun _ _ _ h => h) (Or.inl ⟨by rfl, ?_⟩) ?_ ?_
 rotate_left
 {
 intro w'
 go_simp
 with_reducible rfl }
 rotate_left
 {
 simp only [Act.put, sT, s0, s1, i64_w, i32_w]
 rfl }
 refine pure_ (i := 5) (N := some 21) (v := ?_) (a' := ?_) #[true, true, true, true, true, true, false, false, false] rfl rfl (any_of HT_.out (by kernel_rfl)) (fun _ _ _ h => h) (Or.inl ⟨by rfl, ?_⟩) ?_ ?_
 rotate_left
 {
 intro w'
 go_simp
 with_reducible rfl }
 rotate_left
 {
 simp only [Act.put, sT, s0, s1, i64_w, i32_w]
 rfl }
 refine one_ (i := 6) (N := some 3) #[true, true, true, true, true, true, true, false, false] rfl rfl (one_of HT_.out (by kernel_rfl)) (by decide) (fun K hK => ?_)
 refine box_step ?hg (N := 3) ?hd (cs := #[.slice none 0 0, .slice none 0 0]) (t := 25) ?hr ?_; (case hd => rfl); (case hg => rfl); (case hr => first | (go_simp; done) | (go_simp; rfl))
 intro gb168 hg w36 hbox hb
 have n0_ := aS (Kd.R_below (rr HO154.out) hb)
 have n1_ := aS (Kd.R_below (rr HO157.out) hb)
 have n2_ := aS (Kd.V_below (Kd.V_elderB (vv HO163.out) gb168 (Nat.le_of_eq hg.symm)) hb)
 have n3_ := aS (Kd.V_below (Kd.V_elderB (vv HO166.out) gb168 (Nat.le_of_eq hg.symm)) hb)
 have n4_ := aS (kb BK159.out hb)
 have n5_ := aS (below_step bb hb)
 have n6_ := aS (hbox)
 have n7_ := aS ((by rw [hg]; exact bz : w.heap.size ≤ gb168))
 have n8_ := aS ((by rw [hg]; exact bz : w.heap.size ≤ gb168))
 have n9_ := aS ((by rw [hg]; exact Nat.ne_of_lt (blk_lt (g := gb159) (o := .cells #[.slice Ao29 t152.length co29, .slice Ao31 t155.length co31] 25 (0, 0)) (kk BK159.out)) : gb159 ≠ gb168))
 have n10_ := aS ((by rw [hg]; exact Nat.ne_of_gt (blk_lt (g := gb159) (o := .cells #[.slice Ao29 t152.length co29, .slice Ao31 t155.length co31] 25 (0, 0)) (kk BK159.out)) : gb168 ≠ gb159))
 clear HO154
 clear HO157
 clear HO163
 clear HO166
 clear BK159
 clear HB
 have HO154 := n0_
 have HO157 := n1_
 have HO163 := n2_
 have HO166 := n3_
 have BK159 := n4_
 have HB := n5_
 have BK168 := n6_
 have GW168 := n7_
 have GE168 := n8_
 have NB159_168 := n9_
 have NB168_159 := n10_
 clear n0_ n1_ n2_ n3_ n4_ n5_ n6_ n7_ n8_ n9_ n10_
 clear hb hbox hg
 refine hK.out _ _ ⟨(blk_cell BK159.out 0).trans rfl, (blk_cell BK159.out 1).trans rfl⟩ (fun hHeld => ?_)
 clear hK K
 refine norm_ (a' := ?_) ?_ ?_
 rotate_left
 {
 show Act.put _ (some 3) _ = _
 simp only [Act.put, sT, s0, s1, i64_w, i32_w]
 rfl }
 exact norm_ (by simp only [putAll, Act.put, List.setIfInBounds_toArray, List.set_cons_zero, List.set_cons_succ]) (hCont (v162, v165, gb168) _ ⟨hHeld, (rr HO154.out), (rr HO157.out), (vv HO163.out), (vv HO166.out), (kk BK159.out), (kk BK168.out), GW168.out, GE168.out, NB159_168.out, NB168_159.out, bb⟩) }
 {
 skip
 refine box_step ?hg (N := 3) ?hd (cs := #[.slice none 0 0, .slice none 0 0]) (t := 25) ?hr ?_; (case hd => rfl); (case hg => rfl); (case hr => first | (go_simp; done) | (go_simp; rfl))
 intro gb168 hg w35 hbox hb
 have n0_ := aS (Kd.R_below (rr HO154.out) hb)
 have n1_ := aS (Kd.R_below (rr HO157.out) hb)
 have n2_ := aS (kb BK159.out hb)
 have n3_ := aS (below_step bb hb)
 have n4_ := aS (hbox)
 have n5_ := aS ((by rw [hg]; exact bz : w.heap.size ≤ gb168))
 have n6_ := aS ((by rw [hg]; exact bz : w.heap.size ≤ gb168))
 have n7_ := aS ((by rw [hg]; exact Nat.ne_of_lt (blk_lt (g := gb159) (o := .cells #[.slice Ao29 t152.length co29, .slice Ao31 t155.length co31] 25 (0, 0)) (kk BK159.out)) : gb159 ≠ gb168))
 have n8_ := aS ((by rw [hg]; exact Nat.ne_of_gt (blk_lt (g := gb159) (o := .cells #[.slice Ao29 t152.length co29, .slice Ao31 t155.length co31] 25 (0, 0)) (kk BK159.out)) : gb168 ≠ gb159))
 clear HO154
 clear HO157
 clear BK159
 clear HB
 have HO154 := n0_
 have HO157 := n1_
 have BK159 := n2_
 have HB := n3_
 have BK168 := n4_
 have GW168 := n5_
 have GE168 := n6_
 have NB159_168 := n7_
 have NB168_159 := n8_
 clear n0_ n1_ n2_ n3_ n4_ n5_ n6_ n7_ n8_
 clear hb hbox hg
 refine hK.out _ _ ⟨(blk_cell BK159.out 0).trans rfl, (blk_cell BK159.out 1).trans rfl⟩ (fun hHeld => ?_)
 clear hK K
 refine norm_ (a' := ?_) ?_ ?_
 rotate_left
 {
 show Act.put _ (some 3) _ = _
 simp only [Act.put, sT, s0, s1, i64_w, i32_w]
 rfl }
 refine one_ (i := 2) (N := some 19) #[true, true, true, false, false, false, true, false, false] rfl rfl (one_of HT_.out (by kernel_rfl)) (by decide) (fun K hK => ?_)
 refine goes_ Try.func17 (by kernel_rfl) rfl #[.agg #[.slice Ao29 t152.length co29, .slice Ao31 t155.length co31], .int .i64 1, .string t160] (by rfl) rfl rfl (by (try simp only [List.map_toArray, List.map_cons, List.map_nil]); first | done | rfl | (simp only [List.length_drop, List.length_take]; rfl)) ?_
 with_reducible refine (dWrite.calls (fun k_ => some k_ = (.slice Ao29 t152.length co29 : Value).ownBlock) _ _ t152 (fun k_ => some k_ = (.slice Ao31 t155.length co31 : Value).ownBlock) _ _ t155 1 t160 t161 t164 t167 _ ?side1 ?side2 A3.out).mono ?_
 (case side1 => exact Kd.R_V (Kd.R_tight rfl (Kd.R_types (Kd.R_types (Kd.R_apart' (HO154.out) (Kd.R_typed HO157.out) (by decide)) BK159.out (by decide)) BK168.out (by decide))))
 (case side2 => exact Kd.R_V (Kd.R_tight rfl (Kd.R_types (Kd.R_types (Kd.R_apart' (HO157.out) (Kd.R_typed HO154.out) (by decide)) BK159.out (by decide)) BK168.out (by decide))))
 rintro e w36 ⟨v162, v165, rfl, ho0, ho1, hb⟩
 refine ⟨_, rfl, ?_⟩
 have n0_ := aS (Kd.R_below (rr HO154.out) hb)
 have n1_ := aS (Kd.R_below (rr HO157.out) hb)
 have n2_ := aS (Kd.V_lower (Kd.V_mono (ok' := fun k_ => k_ ≠ gb159 ∧ k_ ≠ gb168) ho0 (fun k_ hk_ => ⟨Or.elim hk_ (fun hs_ => Or.elim hs_ (fun hs_ => ((Kd.R_types (Kd.R_types (Kd.R_apart' (HO154.out) (Kd.R_typed HO157.out) (by decide)) BK159.out (by decide)) BK168.out (by decide)).1 k_ hs_.symm).1.2) (fun hs_ => ((Kd.R_types (Kd.R_types (Kd.R_apart' (HO157.out) (Kd.R_typed HO154.out) (by decide)) BK159.out (by decide)) BK168.out (by decide)).1 k_ hs_.symm).1.2)) (fun hn_ => (Kd.freshB (g := gb159) (o := .cells #[.slice Ao29 t152.length co29, .slice Ao31 t155.length co31] 25 (0, 0)) (kk BK159.out) k_ hn_)), Or.elim hk_ (fun hs_ => Or.elim hs_ (fun hs_ => ((Kd.R_types (Kd.R_types (Kd.R_apart' (HO154.out) (Kd.R_typed HO157.out) (by decide)) BK159.out (by decide)) BK168.out (by decide)).1 k_ hs_.symm).2) (fun hs_ => ((Kd.R_types (Kd.R_types (Kd.R_apart' (HO157.out) (Kd.R_typed HO154.out) (by decide)) BK159.out (by decide)) BK168.out (by decide)).1 k_ hs_.symm).2)) (fun hn_ => (Kd.freshB (g := gb168) (o := .cells #[.slice none 0 0, .slice none 0 0] 25 (0, 0)) (kk BK168.out) k_ hn_))⟩)) bz)
 have n3_ := aS (Kd.V_lower (Kd.V_mono (ok' := fun k_ => k_ ≠ gb159 ∧ k_ ≠ gb168) ho1 (fun k_ hk_ => ⟨Or.elim hk_ (fun hs_ => Or.elim hs_ (fun hs_ => ((Kd.R_types (Kd.R_types (Kd.R_apart' (HO154.out) (Kd.R_typed HO157.out) (by decide)) BK159.out (by decide)) BK168.out (by decide)).1 k_ hs_.symm).1.2) (fun hs_ => ((Kd.R_types (Kd.R_types (Kd.R_apart' (HO157.out) (Kd.R_typed HO154.out) (by decide)) BK159.out (by decide)) BK168.out (by decide)).1 k_ hs_.symm).1.2)) (fun hn_ => (Kd.freshB (g := gb159) (o := .cells #[.slice Ao29 t152.length co29, .slice Ao31 t155.length co31] 25 (0, 0)) (kk BK159.out) k_ hn_)), Or.elim hk_ (fun hs_ => Or.elim hs_ (fun hs_ => ((Kd.R_types (Kd.R_types (Kd.R_apart' (HO154.out) (Kd.R_typed HO157.out) (by decide)) BK159.out (by decide)) BK168.out (by decide)).1 k_ hs_.symm).2) (fun hs_ => ((Kd.R_types (Kd.R_types (Kd.R_apart' (HO157.out) (Kd.R_typed HO154.out) (by decide)) BK159.out (by decide)) BK168.out (by decide)).1 k_ hs_.symm).2)) (fun hn_ => (Kd.freshB (g := gb168) (o := .cells #[.slice none 0 0, .slice none 0 0] 25 (0, 0)) (kk BK168.out) k_ hn_))⟩)) bz)
 have n4_ := aS (kb BK159.out hb)
 have n5_ := aS (kb BK168.out hb)
 have n6_ := aS (below_step bb hb)
 clear HO154
 clear HO157
 clear BK159
 clear BK168
 clear HB
 have HO154 := n0_
 have HO157 := n1_
 have HO163 := n2_
 have HO166 := n3_
 have BK159 := n4_
 have BK168 := n5_
 have HB := n6_
 clear n0_ n1_ n2_ n3_ n4_ n5_ n6_
 (try clear hb)
 (try clear hb2)
 (try clear hk)
 (try clear hi)
 (try clear ho0)
 (try clear ho1)
 refine hK.out _ _ ⟨(blk_cell BK159.out 0).trans rfl, (blk_cell BK159.out 1).trans rfl⟩ (fun hHeld => ?_)
 clear hK K
 refine norm_ (a' := ?_) ?_ ?_
 rotate_left
 {
 show Act.put _ (some 19) _ = _
 simp only [Act.put, sT, s0, s1, i64_w, i32_w]
 rfl }
 refine pure_ (i := 3) (N := some 16) (v := ?_) (a' := ?_) #[true, true, true, true, false, false, true, false, false] rfl rfl (any_of HT_.out (by kernel_rfl)) (fun _ _ _ h => h) (Or.inl ⟨by rfl, ?_⟩) ?_ ?_
 rotate_left
 {
 intro w'
 go_simp
 with_reducible rfl }
 rotate_left
 {
 simp only [Act.put, sT, s0, s1, i64_w, i32_w]
 rfl }
 refine pure_ (i := 4) (N := some 20) (v := ?_) (a' := ?_) #[true, true, true, true, true, false, true, false, false] rfl rfl (any_of HT_.out (by kernel_rfl)) (fun _ _ _ h => h) (Or.inl ⟨by rfl, ?_⟩) ?_ ?_
 rotate_left
 {
 intro w'
 go_simp
 with_reducible rfl }
 rotate_left
 {
 simp only [Act.put, sT, s0, s1, i64_w, i32_w]
 rfl }
 refine pure_ (i := 5) (N := some 21) (v := ?_) (a' := ?_) #[true, true, true, true, true, true, true, false, false] rfl rfl (any_of HT_.out (by kernel_rfl)) (fun _ _ _ h => h) (Or.inl ⟨by rfl, ?_⟩) ?_ ?_
 rotate_left
 {
 intro w'
 go_simp
 with_reducible rfl }
 rotate_left
 {
 simp only [Act.put, sT, s0, s1, i64_w, i32_w]
 rfl }
 exact norm_ (by simp only [putAll, Act.put, List.setIfInBounds_toArray, List.set_cons_zero, List.set_cons_succ]) (hCont (v162, v165, gb168) _ ⟨hHeld, (rr HO154.out), (rr HO157.out), (vv HO163.out), (vv HO166.out), (kk BK159.out), (kk BK168.out), GW168.out, GE168.out, NB159_168.out, NB168_159.out, bb⟩) } }
 {
 skip
 refine box_step ?hg (N := 3) ?hd (cs := #[.slice none 0 0, .slice none 0 0]) (t := 25) ?hr ?_; (case hd => rfl); (case hg => rfl); (case hr => first | (go_simp; done) | (go_simp; rfl))
 intro gb168 hg w34 hbox hb
 have n0_ := aS (Kd.R_below (rr HO154.out) hb)
 have n1_ := aS (Kd.R_below (rr HO157.out) hb)
 have n2_ := aS (kb BK159.out hb)
 have n3_ := aS (below_step bb hb)
 have n4_ := aS (hbox)
 have n5_ := aS ((by rw [hg]; exact bz : w.heap.size ≤ gb168))
 have n6_ := aS ((by rw [hg]; exact bz : w.heap.size ≤ gb168))
 have n7_ := aS ((by rw [hg]; exact Nat.ne_of_lt (blk_lt (g := gb159) (o := .cells #[.slice Ao29 t152.length co29, .slice Ao31 t155.length co31] 25 (0, 0)) (kk BK159.out)) : gb159 ≠ gb168))
 have n8_ := aS ((by rw [hg]; exact Nat.ne_of_gt (blk_lt (g := gb159) (o := .cells #[.slice Ao29 t152.length co29, .slice Ao31 t155.length co31] 25 (0, 0)) (kk BK159.out)) : gb168 ≠ gb159))
 clear HO154
 clear HO157
 clear BK159
 clear HB
 have HO154 := n0_
 have HO157 := n1_
 have BK159 := n2_
 have HB := n3_
 have BK168 := n4_
 have GW168 := n5_
 have GE168 := n6_
 have NB159_168 := n7_
 have NB168_159 := n8_
 clear n0_ n1_ n2_ n3_ n4_ n5_ n6_ n7_ n8_
 clear hb hbox hg
 refine hK.out _ _ ⟨(blk_cell BK159.out 0).trans rfl, (blk_cell BK159.out 1).trans rfl⟩ (fun hHeld => ?_)
 clear hK K
 refine norm_ (a' := ?_) ?_ ?_
 rotate_left
 {
 show Act.put _ (some 3) _ = _
 simp only [Act.put, sT, s0, s1, i64_w, i32_w]
 rfl }
 refine one_ (i := 1) (N := some 18) #[true, true, false, false, false, false, true, false, false] rfl rfl (one_of HT_.out (by kernel_rfl)) (by decide) (fun K hK => ?_)
 refine goes_ Try.func24 (by kernel_rfl) rfl #[.int .u8 97] (by rfl) rfl rfl (by (try simp only [List.map_toArray, List.map_cons, List.map_nil]); first | done | rfl | (simp only [List.length_drop, List.length_take]; rfl)) ?_
 with_reducible refine (hallmootlaw22_full.calls k 97 t160 _ A2.out).mono ?_
 rintro e w35 ⟨rfl, hb⟩
 refine ⟨_, rfl, ?_⟩
 have n0_ := aS (Kd.R_below (rr HO154.out) hb)
 have n1_ := aS (Kd.R_below (rr HO157.out) hb)
 have n2_ := aS (kb BK159.out hb)
 have n3_ := aS (kb BK168.out hb)
 have n4_ := aS (below_step bb hb)
 clear HO154
 clear HO157
 clear BK159
 clear BK168
 clear HB
 have HO154 := n0_
 have HO157 := n1_
 have BK159 := n2_
 have BK168 := n3_
 have HB := n4_
 clear n0_ n1_ n2_ n3_ n4_
 (try clear hb)
 (try clear hb2)
 (try clear hk)
 (try clear hi)
 refine hK.out _ _ ⟨(blk_cell BK159.out 0).trans rfl, (blk_cell BK159.out 1).trans rfl⟩ (fun hHeld => ?_)
 clear hK K
 refine norm_ (a' := ?_) ?_ ?_
 rotate_left
 {
 show Act.put _ (some 18) _ = _
 simp only [Act.put, sT, s0, s1, i64_w, i32_w]
 rfl }
 refine one_ (i := 2) (N := some 19) #[true, true, true, false, false, false, true, false, false] rfl rfl (one_of HT_.out (by kernel_rfl)) (by decide) (fun K hK => ?_)
 refine goes_ Try.func17 (by kernel_rfl) rfl #[.agg #[.slice Ao29 t152.length co29, .slice Ao31 t155.length co31], .int .i64 1, .string t160] (by rfl) rfl rfl (by (try simp only [List.map_toArray, List.map_cons, List.map_nil]); first | done | rfl | (simp only [List.length_drop, List.length_take]; rfl)) ?_
 with_reducible refine (dWrite.calls (fun k_ => some k_ = (.slice Ao29 t152.length co29 : Value).ownBlock) _ _ t152 (fun k_ => some k_ = (.slice Ao31 t155.length co31 : Value).ownBlock) _ _ t155 1 t160 t161 t164 t167 _ ?side1 ?side2 A3.out).mono ?_
 (case side1 => exact Kd.R_V (Kd.R_tight rfl (Kd.R_types (Kd.R_types (Kd.R_apart' (HO154.out) (Kd.R_typed HO157.out) (by decide)) BK159.out (by decide)) BK168.out (by decide))))
 (case side2 => exact Kd.R_V (Kd.R_tight rfl (Kd.R_types (Kd.R_types (Kd.R_apart' (HO157.out) (Kd.R_typed HO154.out) (by decide)) BK159.out (by decide)) BK168.out (by decide))))
 rintro e w36 ⟨v162, v165, rfl, ho0, ho1, hb⟩
 refine ⟨_, rfl, ?_⟩
 have n0_ := aS (Kd.R_below (rr HO154.out) hb)
 have n1_ := aS (Kd.R_below (rr HO157.out) hb)
 have n2_ := aS (Kd.V_lower (Kd.V_mono (ok' := fun k_ => k_ ≠ gb159 ∧ k_ ≠ gb168) ho0 (fun k_ hk_ => ⟨Or.elim hk_ (fun hs_ => Or.elim hs_ (fun hs_ => ((Kd.R_types (Kd.R_types (Kd.R_apart' (HO154.out) (Kd.R_typed HO157.out) (by decide)) BK159.out (by decide)) BK168.out (by decide)).1 k_ hs_.symm).1.2) (fun hs_ => ((Kd.R_types (Kd.R_types (Kd.R_apart' (HO157.out) (Kd.R_typed HO154.out) (by decide)) BK159.out (by decide)) BK168.out (by decide)).1 k_ hs_.symm).1.2)) (fun hn_ => (Kd.freshB (g := gb159) (o := .cells #[.slice Ao29 t152.length co29, .slice Ao31 t155.length co31] 25 (0, 0)) (kk BK159.out) k_ hn_)), Or.elim hk_ (fun hs_ => Or.elim hs_ (fun hs_ => ((Kd.R_types (Kd.R_types (Kd.R_apart' (HO154.out) (Kd.R_typed HO157.out) (by decide)) BK159.out (by decide)) BK168.out (by decide)).1 k_ hs_.symm).2) (fun hs_ => ((Kd.R_types (Kd.R_types (Kd.R_apart' (HO157.out) (Kd.R_typed HO154.out) (by decide)) BK159.out (by decide)) BK168.out (by decide)).1 k_ hs_.symm).2)) (fun hn_ => (Kd.freshB (g := gb168) (o := .cells #[.slice none 0 0, .slice none 0 0] 25 (0, 0)) (kk BK168.out) k_ hn_))⟩)) bz)
 have n3_ := aS (Kd.V_lower (Kd.V_mono (ok' := fun k_ => k_ ≠ gb159 ∧ k_ ≠ gb168) ho1 (fun k_ hk_ => ⟨Or.elim hk_ (fun hs_ => Or.elim hs_ (fun hs_ => ((Kd.R_types (Kd.R_types (Kd.R_apart' (HO154.out) (Kd.R_typed HO157.out) (by decide)) BK159.out (by decide)) BK168.out (by decide)).1 k_ hs_.symm).1.2) (fun hs_ => ((Kd.R_types (Kd.R_types (Kd.R_apart' (HO157.out) (Kd.R_typed HO154.out) (by decide)) BK159.out (by decide)) BK168.out (by decide)).1 k_ hs_.symm).1.2)) (fun hn_ => (Kd.freshB (g := gb159) (o := .cells #[.slice Ao29 t152.length co29, .slice Ao31 t155.length co31] 25 (0, 0)) (kk BK159.out) k_ hn_)), Or.elim hk_ (fun hs_ => Or.elim hs_ (fun hs_ => ((Kd.R_types (Kd.R_types (Kd.R_apart' (HO154.out) (Kd.R_typed HO157.out) (by decide)) BK159.out (by decide)) BK168.out (by decide)).1 k_ hs_.symm).2) (fun hs_ => ((Kd.R_types (Kd.R_types (Kd.R_apart' (HO157.out) (Kd.R_typed HO154.out) (by decide)) BK159.out (by decide)) BK168.out (by decide)).1 k_ hs_.symm).2)) (fun hn_ => (Kd.freshB (g := gb168) (o := .cells #[.slice none 0 0, .slice none 0 0] 25 (0, 0)) (kk BK168.out) k_ hn_))⟩)) bz)
 have n4_ := aS (kb BK159.out hb)
 have n5_ := aS (kb BK168.out hb)
 have n6_ := aS (below_step bb hb)
 clear HO154
 clear HO157
 clear BK159
 clear BK168
 clear HB
 have HO154 := n0_
 have HO157 := n1_
 have HO163 := n2_
 have HO166 := n3_
 have BK159 := n4_
 have BK168 := n5_
 have HB := n6_
 clear n0_ n1_ n2_ n3_ n4_ n5_ n6_
 (try clear hb)
 (try clear hb2)
 (try clear hk)
 (try clear hi)
 (try clear ho0)
 (try clear ho1)
 refine hK.out _ _ ⟨(blk_cell BK159.out 0).trans rfl, (blk_cell BK159.out 1).trans rfl⟩ (fun hHeld => ?_)
 clear hK K
 refine norm_ (a' := ?_) ?_ ?_
 rotate_left
 {
 show Act.put _ (some 19) _ = _
 simp only [Act.put, sT, s0, s1, i64_w, i32_w]
 rfl }
 refine pure_ (i := 3) (N := some 16) (v := ?_) (a' := ?_) #[true, true, true, true, false, false, true, false, false] rfl rfl (any_of HT_.out (by kernel_rfl)) (fun _ _ _ h => h) (Or.inl ⟨by rfl, ?_⟩) ?_ ?_
 rotate_left
 {
 intro w'
 go_simp
 with_reducible rfl }
 rotate_left
 {
 simp only [Act.put, sT, s0, s1, i64_w, i32_w]
 rfl }
 refine pure_ (i := 4) (N := some 20) (v := ?_) (a' := ?_) #[true, true, true, true, true, false, true, false, false] rfl rfl (any_of HT_.out (by kernel_rfl)) (fun _ _ _ h => h) (Or.inl ⟨by rfl, ?_⟩) ?_ ?_
 rotate_left
 {
 intro w'
 go_simp
 with_reducible rfl }
 rotate_left
 {
 simp only [Act.put, sT, s0, s1, i64_w, i32_w]
 rfl }
 refine pure_ (i := 5) (N := some 21) (v := ?_) (a' := ?_) #[true, true, true, true, true, true, true, false, false] rfl rfl (any_of HT_.out (by kernel_rfl)) (fun _ _ _ h => h) (Or.inl ⟨by rfl, ?_⟩) ?_ ?_
 rotate_left
 {
 intro w'
 go_simp
 with_reducible rfl }
 rotate_left
 {
 simp only [Act.put, sT, s0, s1, i64_w, i32_w]
 rfl }
 exact norm_ (by simp only [putAll, Act.put, List.setIfInBounds_toArray, List.set_cons_zero, List.set_cons_succ]) (hCont (v162, v165, gb168) _ ⟨hHeld, (rr HO154.out), (rr HO157.out), (vv HO163.out), (vv HO166.out), (kk BK159.out), (kk BK168.out), GW168.out, GE168.out, NB159_168.out, NB168_159.out, bb⟩) } }
 rintro ⟨v162, v165, gb168⟩ w37 ⟨hS_, h0_, h1_, h2_, h3_, h4_, h5_, h6_, h7_, h8_, h9_, h10_⟩
 have n0_ : Aside0 (Kd.R Kd.string 9 w37 w.heap.size (fun _ => True) (.slice Ao29 t152.length co29) t152) := ⟨h0_⟩
 have n1_ : Aside0 (Kd.R k46 46 w37 w.heap.size (fun _ => True) (.slice Ao31 t155.length co31) t155) := ⟨h1_⟩
 have n2_ : Aside0 (Kd.V Kd.string 9 w37 w.heap.size (fun k_ => k_ ≠ gb159 ∧ k_ ≠ gb168) v162 t161) := ⟨h2_⟩
 have n3_ : Aside0 (Kd.V k46 46 w37 w.heap.size (fun k_ => k_ ≠ gb159 ∧ k_ ≠ gb168) v165 t164) := ⟨h3_⟩
 have n4_ : Aside0 (w37.heap[gb159]? = some (.cells #[.slice Ao29 t152.length co29, .slice Ao31 t155.length co31] 25 (0, 0))) := ⟨h4_⟩
 have n5_ : Aside0 (w37.heap[gb168]? = some (.cells #[.slice none 0 0, .slice none 0 0] 25 (0, 0))) := ⟨h5_⟩
 have n6_ : Aside0 (w.heap.size ≤ gb168) := ⟨h6_⟩
 have n7_ : Aside0 (w.heap.size ≤ gb168) := ⟨h7_⟩
 have n8_ : Aside0 (gb159 ≠ gb168) := ⟨h8_⟩
 have n9_ : Aside0 (gb168 ≠ gb159) := ⟨h9_⟩
 have n10_ : Aside0 (Below w.heap.size w w37) := ⟨h10_⟩
 clear HO154
 clear HO157
 clear BK159
 clear HB
 clear h0_ h1_ h2_ h3_ h4_ h5_ h6_ h7_ h8_ h9_ h10_
 have HO154 := n0_
 have HO157 := n1_
 have HO163 := n2_
 have HO166 := n3_
 have BK159 := n4_
 have BK168 := n5_
 have GW168 := n6_
 have GE168 := n7_
 have NB159_168 := n8_
 have NB168_159 := n9_
 have HB := n10_
 clear n0_ n1_ n2_ n3_ n4_ n5_ n6_ n7_ n8_ n9_ n10_
 have hHeld : w37.cell? ⟨gb159, 0, none⟩ = some (.slice Ao29 t152.length co29) ∧ w37.cell? ⟨gb159, 1, none⟩ = some (.slice Ao31 t155.length co31) := hS_
 obtain ⟨Ao38, co38, eo38⟩ := Kd.V_slice HO163.out
 (first | subst eo38 | (injection eo38 with f1_ f2_ f3_; have f4_ := f1_.symm; have f5_ := f3_.symm; clear f1_ f2_ f3_; subst f4_; subst f5_))
 obtain ⟨Ao40, co40, eo40⟩ := Kd.V_slice HO166.out
 (first | subst eo40 | (injection eo40 with f1_ f2_ f3_; have f4_ := f1_.symm; have f5_ := f3_.symm; clear f1_ f2_ f3_; subst f4_; subst f5_))
 refine norm_ (a' := ?_) ?_ ?_
 rotate_left
 {
 simp only [putAll, Act.put, List.setIfInBounds_toArray, List.set_cons_zero, List.set_cons_succ]
 rfl }
 refine one_ (i := 7) (N := none) #[true, true, true, true, true, true, true, true, false] rfl rfl (one_of HT_.out (by kernel_rfl)) (by decide) (fun K hK => ?_)
 have hs39 : w37.cell? ⟨gb168, 0, none⟩ = some (.slice none 0 0) := (blk_cell BK168.out 0).trans rfl
 have hfs39 := blk_frozen BK168.out 0
 have hns39_0 := NB159_168.out
 have hms39_0 := NB168_159.out
 have hs41 : w37.cell? ⟨gb168, 1, none⟩ = some (.slice none 0 0) := (blk_cell BK168.out 1).trans rfl
 have hfs41 := blk_frozen BK168.out 1
 have hns41_0 := NB159_168.out
 have hms41_0 := NB168_159.out
 refine skip_ (w1 := ?_) (by rfl) rfl ?_ ?_
 rotate_left
 {
 go_simp
 rfl }
 refine hK.out _ _ ⟨((cell_far (p := ⟨gb168, _, none⟩) NB159_168.out _).trans (((cell_far (p := ⟨gb168, _, none⟩) NB159_168.out _).trans (hHeld.1)))), ((cell_far (p := ⟨gb168, _, none⟩) NB159_168.out _).trans (((cell_far (p := ⟨gb168, _, none⟩) NB159_168.out _).trans (hHeld.2))))⟩ (fun hHeld => ?_)
 clear hK K
 refine pure_ (i := 8) (N := some 4) (v := ?_) (a' := ?_) #[true, true, true, true, true, true, true, true, true] rfl rfl (any_of HT_.out (by kernel_rfl)) (fun _ _ _ h => h) (Or.inl ⟨by rfl, ?_⟩) ?_ ?_
 rotate_left
 {
 intro w'
 go_simp
 with_reducible rfl }
 rotate_left
 {
 simp only [Act.put, sT, s0, s1, i64_w, i32_w]
 rfl }
 refine done_ (done_of HT_.out (by kernel_rfl)) ?_
 have hnb42 := NB168_159.out
 have hnc42 := NB159_168.out
 have hcz43_0 : w37.cell? ⟨gb168, 0, none⟩ = some (.slice none 0 0) := (blk_cell BK168.out 0).trans rfl
 have hcz43_1 : w37.cell? ⟨gb168, 1, none⟩ = some (.slice none 0 0) := (blk_cell BK168.out 1).trans rfl
 have hfz43_0 := blk_frozen BK168.out 0
 have hfz43_1 := blk_frozen BK168.out 1
 try go_wp2_with (first | ((with_reducible refine gate_dst (N := 23) rfl ?_); (try (refine gate_guard (by rfl) ?_; dsimp only)); refine Kd.R_lit (Kd.int .i64) _ 3 ?hg (N := 23) ?hd (xs := ([2] : List Int)) (inner := [.int .i64 2]) (ok := fun _ => True) (okp := fun _ => True) ?hr ?hp (fun _ hk => hk) trivial (Below.refl _ _) (Nat.le_refl _) (by simp) ?_; (case hd => rfl); (case hg => rfl); (case hr => first | (go_simp; done) | (go_simp; rfl)); (case hp => exact (Reps.one (show Kd.M (Kd.int .i64) _ _ _ 2 [.int .i64 2] from rfl) (Reps.none _ _))); intro v170 w44 ho45 hb hg_ hnew_; clear hg_ hnew_; (first | rw [← Ny169.out] at ho45 | (simp only [Int.reduceToNat] at ho45; rw [← Ny169.out] at ho45)); have n0_ := aS (Kd.R_below (rr ((Kd.R_mono (Kd.R_far (p := ⟨gb168, 1, none⟩) (Kd.R_far (p := ⟨gb168, 0, none⟩) (Kd.R_types HO154.out BK168.out (by decide)) (fun _ hk => hk.2) (.slice Ao38 t161.length co38)) (fun _ hk => hk.2) (.slice Ao40 t164.length co40)) (fun _ h_ => h_.1)))) hb); have n1_ := aS (Kd.R_below (rr ((Kd.R_mono (Kd.R_far (p := ⟨gb168, 1, none⟩) (Kd.R_far (p := ⟨gb168, 0, none⟩) (Kd.R_types HO157.out BK168.out (by decide)) (fun _ hk => hk.2) (.slice Ao38 t161.length co38)) (fun _ hk => hk.2) (.slice Ao40 t164.length co40)) (fun _ h_ => h_.1)))) hb); have n2_ := aS (Kd.V_elder' (vv ((Kd.V_mono (Kd.V_far (p := ⟨gb168, 1, none⟩) (Kd.V_far (p := ⟨gb168, 0, none⟩) (Kd.V_mono HO163.out (fun k_ hk => (⟨hk, hk.2⟩ : _ ∧ k_ ≠ gb168))) (fun _ hk => hk.2) (.slice Ao38 t161.length co38)) (fun _ hk => hk.2) (.slice Ao40 t164.length co40)) (fun _ h_ => h_.1)))) (Kd.R_base ho45) hb); have n3_ := aS (Kd.V_elder' (vv ((Kd.V_mono (Kd.V_far (p := ⟨gb168, 1, none⟩) (Kd.V_far (p := ⟨gb168, 0, none⟩) (Kd.V_mono HO166.out (fun k_ hk => (⟨hk, hk.2⟩ : _ ∧ k_ ≠ gb168))) (fun _ hk => hk.2) (.slice Ao38 t161.length co38)) (fun _ hk => hk.2) (.slice Ao40 t164.length co40)) (fun _ h_ => h_.1)))) (Kd.R_base ho45) hb); have n4_ := aS (Kd.R_lower ho45 bz); have n5_ := aS (blk_below (g := gb159) (o := .cells #[.slice Ao29 t152.length co29, .slice Ao31 t155.length co31] 25 (0, 0)) (by (with_reducible repeat (first | refine blk_drewN ?_ _ | refine blk_drew ?_ | refine blk_alloc ?_ _)); refine blk_far ?_ NB159_168.out _; (with_reducible repeat (first | refine blk_drewN ?_ _ | refine blk_drew ?_ | refine blk_alloc ?_ _)); refine blk_far ?_ NB159_168.out _; (with_reducible repeat (first | refine blk_drewN ?_ _ | refine blk_drew ?_ | refine blk_alloc ?_ _)); exact BK159.out) hb); have n6_ := aS (blk_below (g := gb168) (o := .cells #[.slice Ao38 t161.length co38, .slice Ao40 t164.length co40] 25 (0, 0)) (by (with_reducible repeat (first | refine blk_drewN ?_ _ | refine blk_drew ?_ | refine blk_alloc ?_ _)); refine blk_put (cs := #[.slice Ao38 t161.length co38, .slice none 0 0]) ?_ 1 _ rfl; (with_reducible repeat (first | refine blk_drewN ?_ _ | refine blk_drew ?_ | refine blk_alloc ?_ _)); refine blk_put (cs := #[.slice none 0 0, .slice none 0 0]) ?_ 0 _ rfl; (with_reducible repeat (first | refine blk_drewN ?_ _ | refine blk_drew ?_ | refine blk_alloc ?_ _)); exact BK168.out) hb); have n7_ := aS (below_step bb hb); clear HO154; clear HO157; clear HO163; clear HO166; clear BK159; clear BK168; clear HB; have HO154 := n0_; have HO157 := n1_; have HO163 := n2_; have HO166 := n3_; have HO171 := n4_; have BK159 := n5_; have BK168 := n6_; have HB := n7_; clear n0_ n1_ n2_ n3_ n4_ n5_ n6_ n7_; clear hb ho45; obtain ⟨Ao46, co46, eo46⟩ := Kd.R_slice HO171.out; subst eo46) | ((with_reducible refine gate_callee (f := 21) rfl ?_); refine goesL_ (some 24) rfl rfl Try.func21 (by kernel_rfl) rfl #[.agg #[.slice Ao38 t161.length co38, .slice Ao40 t164.length co40], .slice Ao46 y169.length co46] rfl (by (try simp only [List.map_toArray, List.map_cons, List.map_nil]); first | done | rfl | (simp only [List.length_drop, List.length_take]; rfl)) ?_; (with_reducible refine (dCrash.calls _ _ t161 _ _ t164 _ _ y169 t172 t175 _ ?side1 ?side2 ?side3 ?side4 ?side5 ?side6 A4.out).mono ?_); (case side1 => repeat (first | exact (Kd.V_reads' HO163.out).2.2 | (with_reducible refine Kd.C_alloc ?_ _) | (with_reducible refine Kd.C_drewN ?_ _) | (with_reducible refine Kd.C_drew ?_))); (case side2 => exact (Kd.V_reads' HO163.out).2.1); (case side3 => repeat (first | exact (Kd.V_reads' HO166.out).2.2 | (with_reducible refine Kd.C_alloc ?_ _) | (with_reducible refine Kd.C_drewN ?_ _) | (with_reducible refine Kd.C_drew ?_))); (case side4 => exact (Kd.V_reads' HO166.out).2.1); (case side5 => repeat (first | exact (Kd.R_reads' HO171.out).2.2 | (with_reducible refine Kd.C_alloc ?_ _) | (with_reducible refine Kd.C_drewN ?_ _) | (with_reducible refine Kd.C_drew ?_))); (case side6 => exact (Kd.R_reads' HO171.out).2.1); rintro e w47 ⟨v173, v176, rfl, ho0, ho1, hb⟩; refine ⟨_, rfl, ?_⟩; have n0_ := aS (Kd.R_elder' (rr HO154.out) (Kd.R_base ho0) hb); have n1_ := aS (Kd.R_elder' (rr HO157.out) (Kd.R_base ho1) hb); have n2_ := aS (Kd.V_mono (Kd.V_told (Kd.V_told (Kd.V_old (vv HO163.out) hb) (Kd.R_base ho0)) (Kd.R_base ho1)) (fun _ h_ => h_.1)); have n3_ := aS (Kd.V_mono (Kd.V_told (Kd.V_told (Kd.V_old (vv HO166.out) hb) (Kd.R_base ho0)) (Kd.R_base ho1)) (fun _ h_ => h_.1)); have n4_ := aS (Kd.R_below (rr HO171.out) hb); have n5_ := aS (Kd.R_lower (Kd.R_new' ho0 (Kd.R_lt (rr HO154.out))) bz); have n6_ := aS (Kd.R_lower (Kd.R_new' ho1 (Kd.R_lt (rr HO157.out))) bz); have n7_ := aS (kb BK159.out hb); have n8_ := aS (kb BK168.out hb); have n9_ := aS (below_step bb hb); clear HO154; clear HO157; clear HO163; clear HO166; clear HO171; clear BK159; clear BK168; clear HB; have HO154 := n0_; have HO157 := n1_; have HO163 := n2_; have HO166 := n3_; have HO171 := n4_; have HO174 := n5_; have HO177 := n6_; have BK159 := n7_; have BK168 := n8_; have HB := n9_; clear n0_ n1_ n2_ n3_ n4_ n5_ n6_ n7_ n8_ n9_; (try clear hb); (try clear hb2); (try clear hk); (try clear hi); (try clear ho0); (try clear ho1)) | ((with_reducible refine gate_dst (N := 5) rfl ?_); (try (refine gate_guard (by rfl) ?_; dsimp only)); refine box_event ?hg (N := 5) ?hd (cs := #[.slice none 0 0, .slice none 0 0]) (t := 25) ?hr ?_; (case hd => rfl); (case hg => rfl); (case hr => first | (go_simp; done) | (go_simp; rfl)); intro gb178 hg w48 hbox hb; have n0_ := aS (Kd.R_below (rr HO154.out) hb); have n1_ := aS (Kd.R_below (rr HO157.out) hb); have n2_ := aS (Kd.V_below (Kd.V_elderB (vv HO163.out) gb178 (Nat.le_of_eq hg.symm)) hb); have n3_ := aS (Kd.V_below (Kd.V_elderB (vv HO166.out) gb178 (Nat.le_of_eq hg.symm)) hb); have n4_ := aS (Kd.R_below (rr HO171.out) hb); have n5_ := aS (Kd.R_below (rr HO174.out) hb); have n6_ := aS (Kd.R_below (rr HO177.out) hb); have n7_ := aS (kb BK159.out hb); have n8_ := aS (kb BK168.out hb); have n9_ := aS (below_step bb hb); have n10_ := aS (hbox); have n11_ := aS ((by rw [hg]; exact bz : w.heap.size ≤ gb178)); have n12_ := aS ((by rw [hg]; exact bz : w.heap.size ≤ gb178)); have n13_ := aS ((by rw [hg]; exact Nat.ne_of_lt (blk_lt (g := gb159) (o := .cells #[.slice Ao29 t152.length co29, .slice Ao31 t155.length co31] 25 (0, 0)) (kk BK159.out)) : gb159 ≠ gb178)); have n14_ := aS ((by rw [hg]; exact Nat.ne_of_gt (blk_lt (g := gb159) (o := .cells #[.slice Ao29 t152.length co29, .slice Ao31 t155.length co31] 25 (0, 0)) (kk BK159.out)) : gb178 ≠ gb159)); have n15_ := aS ((by rw [hg]; exact Nat.ne_of_lt (blk_lt (g := gb168) (o := .cells #[.slice Ao38 t161.length co38, .slice Ao40 t164.length co40] 25 (0, 0)) (kk BK168.out)) : gb168 ≠ gb178)); have n16_ := aS ((by rw [hg]; exact Nat.ne_of_gt (blk_lt (g := gb168) (o := .cells #[.slice Ao38 t161.length co38, .slice Ao40 t164.length co40] 25 (0, 0)) (kk BK168.out)) : gb178 ≠ gb168)); clear HO154; clear HO157; clear HO163; clear HO166; clear HO171; clear HO174; clear HO177; clear BK159; clear BK168; clear HB; have HO154 := n0_; have HO157 := n1_; have HO163 := n2_; have HO166 := n3_; have HO171 := n4_; have HO174 := n5_; have HO177 := n6_; have BK159 := n7_; have BK168 := n8_; have HB := n9_; have BK178 := n10_; have GW178 := n11_; have GE178 := n12_; have NB159_178 := n13_; have NB178_159 := n14_; have NB168_178 := n15_; have NB178_168 := n16_; clear n0_ n1_ n2_ n3_ n4_ n5_ n6_ n7_ n8_ n9_ n10_ n11_ n12_ n13_ n14_ n15_ n16_; clear hb hbox hg; obtain ⟨Ao49, co49, eo49⟩ := Kd.R_slice HO174.out; subst eo49; have hnb50 := NB178_159.out; have hnc50 := NB159_178.out; have hnb51 := NB178_168.out; have hnc51 := NB168_178.out; have hcz52_0 : w48.cell? ⟨gb178, 0, none⟩ = some (.slice none 0 0) := (blk_cell BK178.out 0).trans rfl; have hcz52_1 : w48.cell? ⟨gb178, 1, none⟩ = some (.slice none 0 0) := (blk_cell BK178.out 1).trans rfl; have hfz52_0 := blk_frozen BK178.out 0; have hfz52_1 := blk_frozen BK178.out 1; obtain ⟨Ao53, co53, eo53⟩ := Kd.R_slice HO177.out; subst eo53) | ((with_reducible refine gate_callee (f := 15) rfl ?_); refine goesL_ (some 27) rfl rfl Try.func15 (by kernel_rfl) rfl #[.agg #[.slice Ao49 t172.length co49, .slice Ao53 t175.length co53], .int .i64 1] rfl (by (try simp only [List.map_toArray, List.map_cons, List.map_nil]); first | done | rfl | (simp only [List.length_drop, List.length_take]; rfl)) ?_; (with_reducible refine (disk_Read.calls _ _ t172 _ _ t175 1 t179 t180 _ ?side1 ?side2 ?side3 ?side4 A5.out).mono ?_); (case side1 => refine (Kd.R_reads' (e := 9) (base := w.heap.size) (ok := fun k_ => (True ∧ some k_ ≠ (.slice Ao29 t152.length co29 : Value).ownBlock)) (n := t172.length) (c := co49) ?_).2.2; exact (rr ((Kd.R_mono (Kd.R_far (p := ⟨gb178, 1, none⟩) (Kd.R_far (p := ⟨gb178, 0, none⟩) (Kd.R_types HO174.out BK178.out (by decide)) (fun _ hk => hk.2) (.slice Ao49 t172.length co49)) (fun _ hk => hk.2) (.slice Ao53 t175.length co53)) (fun _ h_ => h_.1))))); (case side2 => exact (Kd.R_reads' HO174.out).2.1); (case side3 => refine (Kd.R_reads' (e := 46) (base := w.heap.size) (ok := fun k_ => (True ∧ some k_ ≠ (.slice Ao31 t155.length co31 : Value).ownBlock)) (n := t175.length) (c := co53) ?_).2.2; exact (rr ((Kd.R_mono (Kd.R_far (p := ⟨gb178, 1, none⟩) (Kd.R_far (p := ⟨gb178, 0, none⟩) (Kd.R_types HO177.out BK178.out (by decide)) (fun _ hk => hk.2) (.slice Ao49 t172.length co49)) (fun _ hk => hk.2) (.slice Ao53 t175.length co53)) (fun _ h_ => h_.1))))); (case side4 => exact (Kd.R_reads' HO177.out).2.1); rintro e w54 ⟨rfl, hb⟩; refine ⟨_, rfl, ?_⟩; have n0_ := aS (Kd.R_below (rr ((Kd.R_mono (Kd.R_far (p := ⟨gb178, 1, none⟩) (Kd.R_far (p := ⟨gb178, 0, none⟩) (Kd.R_types HO154.out BK178.out (by decide)) (fun _ hk => hk.2) (.slice Ao49 t172.length co49)) (fun _ hk => hk.2) (.slice Ao53 t175.length co53)) (fun _ h_ => h_.1)))) hb); have n1_ := aS (Kd.R_below (rr ((Kd.R_mono (Kd.R_far (p := ⟨gb178, 1, none⟩) (Kd.R_far (p := ⟨gb178, 0, none⟩) (Kd.R_types HO157.out BK178.out (by decide)) (fun _ hk => hk.2) (.slice Ao49 t172.length co49)) (fun _ hk => hk.2) (.slice Ao53 t175.length co53)) (fun _ h_ => h_.1)))) hb); have n2_ := aS (Kd.V_below (vv ((Kd.V_mono (Kd.V_far (p := ⟨gb178, 1, none⟩) (Kd.V_far (p := ⟨gb178, 0, none⟩) (Kd.V_mono HO163.out (fun k_ hk => (⟨hk, hk.2⟩ : _ ∧ k_ ≠ gb178))) (fun _ hk => hk.2) (.slice Ao49 t172.length co49)) (fun _ hk => hk.2) (.slice Ao53 t175.length co53)) (fun _ h_ => h_.1)))) hb); have n3_ := aS (Kd.V_below (vv ((Kd.V_mono (Kd.V_far (p := ⟨gb178, 1, none⟩) (Kd.V_far (p := ⟨gb178, 0, none⟩) (Kd.V_mono HO166.out (fun k_ hk => (⟨hk, hk.2⟩ : _ ∧ k_ ≠ gb178))) (fun _ hk => hk.2) (.slice Ao49 t172.length co49)) (fun _ hk => hk.2) (.slice Ao53 t175.length co53)) (fun _ h_ => h_.1)))) hb); have n4_ := aS (Kd.R_below (rr ((Kd.R_mono (Kd.R_far (p := ⟨gb178, 1, none⟩) (Kd.R_far (p := ⟨gb178, 0, none⟩) (Kd.R_types HO171.out BK178.out (by decide)) (fun _ hk => hk.2) (.slice Ao49 t172.length co49)) (fun _ hk => hk.2) (.slice Ao53 t175.length co53)) (fun _ h_ => h_.1)))) hb); have n5_ := aS (Kd.R_below (rr ((Kd.R_mono (Kd.R_far (p := ⟨gb178, 1, none⟩) (Kd.R_far (p := ⟨gb178, 0, none⟩) (Kd.R_types HO174.out BK178.out (by decide)) (fun _ hk => hk.2) (.slice Ao49 t172.length co49)) (fun _ hk => hk.2) (.slice Ao53 t175.length co53)) (fun _ h_ => h_.1)))) hb); have n6_ := aS (Kd.R_below (rr ((Kd.R_mono (Kd.R_far (p := ⟨gb178, 1, none⟩) (Kd.R_far (p := ⟨gb178, 0, none⟩) (Kd.R_types HO177.out BK178.out (by decide)) (fun _ hk => hk.2) (.slice Ao49 t172.length co49)) (fun _ hk => hk.2) (.slice Ao53 t175.length co53)) (fun _ h_ => h_.1)))) hb); have n7_ := aS (blk_below (g := gb159) (o := .cells #[.slice Ao29 t152.length co29, .slice Ao31 t155.length co31] 25 (0, 0)) (by (with_reducible repeat (first | refine blk_drewN ?_ _ | refine blk_drew ?_ | refine blk_alloc ?_ _)); refine blk_far ?_ NB159_178.out _; (with_reducible repeat (first | refine blk_drewN ?_ _ | refine blk_drew ?_ | refine blk_alloc ?_ _)); refine blk_far ?_ NB159_178.out _; (with_reducible repeat (first | refine blk_drewN ?_ _ | refine blk_drew ?_ | refine blk_alloc ?_ _)); exact BK159.out) hb); have n8_ := aS (blk_below (g := gb168) (o := .cells #[.slice Ao38 t161.length co38, .slice Ao40 t164.length co40] 25 (0, 0)) (by (with_reducible repeat (first | refine blk_drewN ?_ _ | refine blk_drew ?_ | refine blk_alloc ?_ _)); refine blk_far ?_ NB168_178.out _; (with_reducible repeat (first | refine blk_drewN ?_ _ | refine blk_drew ?_ | refine blk_alloc ?_ _)); refine blk_far ?_ NB168_178.out _; (with_reducible repeat (first | refine blk_drewN ?_ _ | refine blk_drew ?_ | refine blk_alloc ?_ _)); exact BK168.out) hb); have n9_ := aS (blk_below (g := gb178) (o := .cells #[.slice Ao49 t172.length co49, .slice Ao53 t175.length co53] 25 (0, 0)) (by (with_reducible repeat (first | refine blk_drewN ?_ _ | refine blk_drew ?_ | refine blk_alloc ?_ _)); refine blk_put (cs := #[.slice Ao49 t172.length co49, .slice none 0 0]) ?_ 1 _ rfl; (with_reducible repeat (first | refine blk_drewN ?_ _ | refine blk_drew ?_ | refine blk_alloc ?_ _)); refine blk_put (cs := #[.slice none 0 0, .slice none 0 0]) ?_ 0 _ rfl; (with_reducible repeat (first | refine blk_drewN ?_ _ | refine blk_drew ?_ | refine blk_alloc ?_ _)); exact BK178.out) hb); have n10_ := aS (below_step bb hb); clear HO154; clear HO157; clear HO163; clear HO166; clear HO171; clear HO174; clear HO177; clear BK159; clear BK168; clear BK178; clear HB; have HO154 := n0_; have HO157 := n1_; have HO163 := n2_; have HO166 := n3_; have HO171 := n4_; have HO174 := n5_; have HO177 := n6_; have BK159 := n7_; have BK168 := n8_; have BK178 := n9_; have HB := n10_; clear n0_ n1_ n2_ n3_ n4_ n5_ n6_ n7_ n8_ n9_ n10_; (try clear hb); (try clear hb2); (try clear hk); (try clear hi); have hcz55_0 : w54.cell? ⟨gb178, 0, none⟩ = some (.slice Ao49 t172.length co49) := (blk_cell BK178.out 0).trans rfl; have hcz55_1 : w54.cell? ⟨gb178, 1, none⟩ = some (.slice Ao53 t175.length co53) := (blk_cell BK178.out 1).trans rfl; have hfz55_0 := blk_frozen BK178.out 0; have hfz55_1 := blk_frozen BK178.out 1) | ((with_reducible refine gate_callee (f := 15) rfl ?_); refine goesL_ (some 32) rfl rfl Try.func15 (by kernel_rfl) rfl #[.agg #[.slice Ao49 t172.length co49, .slice Ao53 t175.length co53], .int .i64 2] rfl (by (try simp only [List.map_toArray, List.map_cons, List.map_nil]); first | done | rfl | (simp only [List.length_drop, List.length_take]; rfl)) ?_; (with_reducible refine (disk_Read.calls _ _ t172 _ _ t175 2 t181 t182 _ ?side1 ?side2 ?side3 ?side4 A6.out).mono ?_); (case side1 => repeat (first | exact (Kd.R_reads' HO174.out).2.2 | (with_reducible refine Kd.C_alloc ?_ _) | (with_reducible refine Kd.C_drewN ?_ _) | (with_reducible refine Kd.C_drew ?_))); (case side2 => exact (Kd.R_reads' HO174.out).2.1); (case side3 => repeat (first | exact (Kd.R_reads' HO177.out).2.2 | (with_reducible refine Kd.C_alloc ?_ _) | (with_reducible refine Kd.C_drewN ?_ _) | (with_reducible refine Kd.C_drew ?_))); (case side4 => exact (Kd.R_reads' HO177.out).2.1); rintro e w56 ⟨rfl, hb⟩; refine ⟨_, rfl, ?_⟩; have n0_ := aS (Kd.R_below (rr HO154.out) hb); have n1_ := aS (Kd.R_below (rr HO157.out) hb); have n2_ := aS (Kd.V_below (vv HO163.out) hb); have n3_ := aS (Kd.V_below (vv HO166.out) hb); have n4_ := aS (Kd.R_below (rr HO171.out) hb); have n5_ := aS (Kd.R_below (rr HO174.out) hb); have n6_ := aS (Kd.R_below (rr HO177.out) hb); have n7_ := aS (kb BK159.out hb); have n8_ := aS (kb BK168.out hb); have n9_ := aS (kb BK178.out hb); have n10_ := aS (below_step bb hb); clear HO154; clear HO157; clear HO163; clear HO166; clear HO171; clear HO174; clear HO177; clear BK159; clear BK168; clear BK178; clear HB; have HO154 := n0_; have HO157 := n1_; have HO163 := n2_; have HO166 := n3_; have HO171 := n4_; have HO174 := n5_; have HO177 := n6_; have BK159 := n7_; have BK168 := n8_; have BK178 := n9_; have HB := n10_; clear n0_ n1_ n2_ n3_ n4_ n5_ n6_ n7_ n8_ n9_ n10_; (try clear hb); (try clear hb2); (try clear hk); (try clear hi); have hcz57_0 : w56.cell? ⟨gb178, 0, none⟩ = some (.slice Ao49 t172.length co49) := (blk_cell BK178.out 0).trans rfl; have hcz57_1 : w56.cell? ⟨gb178, 1, none⟩ = some (.slice Ao53 t175.length co53) := (blk_cell BK178.out 1).trans rfl; have hfz57_0 := blk_frozen BK178.out 0; have hfz57_1 := blk_frozen BK178.out 1) | ((with_reducible refine gate_callee (f := 17) rfl ?_); refine goesL_ (some 37) rfl rfl Try.func17 (by kernel_rfl) rfl #[.agg #[.slice Ao49 t172.length co49, .slice Ao53 t175.length co53], .int .i64 0, .string (⟨#[97]⟩ : ByteArray)] rfl (by (try simp only [List.map_toArray, List.map_cons, List.map_nil]); first | done | rfl | (simp only [List.length_drop, List.length_take]; rfl)) ?_; (with_reducible refine (dWrite.calls (fun k_ => some k_ = (.slice Ao49 t172.length co49 : Value).ownBlock) _ _ t172 (fun k_ => some k_ = (.slice Ao53 t175.length co53 : Value).ownBlock) _ _ t175 0 (⟨#[97]⟩ : ByteArray) t183 t186 t189 _ ?side1 ?side2 A7.out).mono ?_); (case side1 => exact Kd.R_V (Kd.R_tight rfl (Kd.R_types (Kd.R_types (Kd.R_types (Kd.R_apart' (Kd.R_apart' (Kd.R_apart' (HO174.out) (Kd.R_typed HO157.out) (by decide)) (Kd.R_typed HO171.out) (by decide)) (Kd.R_typed HO177.out) (by decide)) BK159.out (by decide)) BK168.out (by decide)) BK178.out (by decide)))); (case side2 => exact Kd.R_V (Kd.R_tight rfl (Kd.R_types (Kd.R_types (Kd.R_types (Kd.R_apart' (Kd.R_apart' (Kd.R_apart' (HO177.out) (Kd.R_typed HO154.out) (by decide)) (Kd.R_typed HO171.out) (by decide)) (Kd.R_typed HO174.out) (by decide)) BK159.out (by decide)) BK168.out (by decide)) BK178.out (by decide)))); rintro e w58 ⟨v184, v187, rfl, ho0, ho1, hb⟩; refine ⟨_, rfl, ?_⟩; have n0_ := aS (Kd.R_below (rr HO154.out) hb); have n1_ := aS (Kd.R_below (rr HO157.out) hb); have n2_ := aS (Kd.V_below (vv HO163.out) hb); have n3_ := aS (Kd.V_below (vv HO166.out) hb); have n4_ := aS (Kd.R_below (rr HO171.out) hb); have n5_ := aS (Kd.R_below (rr HO174.out) hb); have n6_ := aS (Kd.R_below (rr HO177.out) hb); have n7_ := aS (Kd.V_lower (Kd.V_mono (ok' := fun k_ => some k_ ≠ (.slice Ao29 t152.length co29 : Value).ownBlock ∧ some k_ ≠ (.slice Ao31 t155.length co31 : Value).ownBlock ∧ some k_ ≠ (.slice Ao46 y169.length co46 : Value).ownBlock ∧ k_ ≠ gb159 ∧ k_ ≠ gb168 ∧ k_ ≠ gb178) ho0 (fun k_ hk_ => ⟨Or.elim hk_ (fun hs_ => Or.elim hs_ (fun hs_ => ((Kd.R_types (Kd.R_types (Kd.R_types (Kd.R_apart' (Kd.R_apart' (Kd.R_apart' (HO174.out) (Kd.R_typed HO157.out) (by decide)) (Kd.R_typed HO171.out) (by decide)) (Kd.R_typed HO177.out) (by decide)) BK159.out (by decide)) BK168.out (by decide)) BK178.out (by decide)).1 k_ hs_.symm).1.1.1.1.1.1.2) (fun hs_ => ((Kd.R_types (Kd.R_types (Kd.R_types (Kd.R_apart' (Kd.R_apart' (Kd.R_apart' (HO177.out) (Kd.R_typed HO154.out) (by decide)) (Kd.R_typed HO171.out) (by decide)) (Kd.R_typed HO174.out) (by decide)) BK159.out (by decide)) BK168.out (by decide)) BK178.out (by decide)).1 k_ hs_.symm).1.1.1.1.1.2)) (fun hn_ => (Kd.fresh' (Kd.R_lt (rr HO154.out)) k_ hn_)), Or.elim hk_ (fun hs_ => Or.elim hs_ (fun hs_ => ((Kd.R_types (Kd.R_types (Kd.R_types (Kd.R_apart' (Kd.R_apart' (Kd.R_apart' (HO174.out) (Kd.R_typed HO157.out) (by decide)) (Kd.R_typed HO171.out) (by decide)) (Kd.R_typed HO177.out) (by decide)) BK159.out (by decide)) BK168.out (by decide)) BK178.out (by decide)).1 k_ hs_.symm).1.1.1.1.1.2) (fun hs_ => ((Kd.R_types (Kd.R_types (Kd.R_types (Kd.R_apart' (Kd.R_apart' (Kd.R_apart' (HO177.out) (Kd.R_typed HO154.out) (by decide)) (Kd.R_typed HO171.out) (by decide)) (Kd.R_typed HO174.out) (by decide)) BK159.out (by decide)) BK168.out (by decide)) BK178.out (by decide)).1 k_ hs_.symm).1.1.1.1.1.1.2)) (fun hn_ => (Kd.fresh' (Kd.R_lt (rr HO157.out)) k_ hn_)), Or.elim hk_ (fun hs_ => Or.elim hs_ (fun hs_ => ((Kd.R_types (Kd.R_types (Kd.R_types (Kd.R_apart' (Kd.R_apart' (Kd.R_apart' (HO174.out) (Kd.R_typed HO157.out) (by decide)) (Kd.R_typed HO171.out) (by decide)) (Kd.R_typed HO177.out) (by decide)) BK159.out (by decide)) BK168.out (by decide)) BK178.out (by decide)).1 k_ hs_.symm).1.1.1.1.2) (fun hs_ => ((Kd.R_types (Kd.R_types (Kd.R_types (Kd.R_apart' (Kd.R_apart' (Kd.R_apart' (HO177.out) (Kd.R_typed HO154.out) (by decide)) (Kd.R_typed HO171.out) (by decide)) (Kd.R_typed HO174.out) (by decide)) BK159.out (by decide)) BK168.out (by decide)) BK178.out (by decide)).1 k_ hs_.symm).1.1.1.1.2)) (fun hn_ => (Kd.fresh' (Kd.R_lt (rr HO171.out)) k_ hn_)), Or.elim hk_ (fun hs_ => Or.elim hs_ (fun hs_ => ((Kd.R_types (Kd.R_types (Kd.R_types (Kd.R_apart' (Kd.R_apart' (Kd.R_apart' (HO174.out) (Kd.R_typed HO157.out) (by decide)) (Kd.R_typed HO171.out) (by decide)) (Kd.R_typed HO177.out) (by decide)) BK159.out (by decide)) BK168.out (by decide)) BK178.out (by decide)).1 k_ hs_.symm).1.1.2) (fun hs_ => ((Kd.R_types (Kd.R_types (Kd.R_types (Kd.R_apart' (Kd.R_apart' (Kd.R_apart' (HO177.out) (Kd.R_typed HO154.out) (by decide)) (Kd.R_typed HO171.out) (by decide)) (Kd.R_typed HO174.out) (by decide)) BK159.out (by decide)) BK168.out (by decide)) BK178.out (by decide)).1 k_ hs_.symm).1.1.2)) (fun hn_ => (Kd.freshB (g := gb159) (o := .cells #[.slice Ao29 t152.length co29, .slice Ao31 t155.length co31] 25 (0, 0)) (kk BK159.out) k_ hn_)), Or.elim hk_ (fun hs_ => Or.elim hs_ (fun hs_ => ((Kd.R_types (Kd.R_types (Kd.R_types (Kd.R_apart' (Kd.R_apart' (Kd.R_apart' (HO174.out) (Kd.R_typed HO157.out) (by decide)) (Kd.R_typed HO171.out) (by decide)) (Kd.R_typed HO177.out) (by decide)) BK159.out (by decide)) BK168.out (by decide)) BK178.out (by decide)).1 k_ hs_.symm).1.2) (fun hs_ => ((Kd.R_types (Kd.R_types (Kd.R_types (Kd.R_apart' (Kd.R_apart' (Kd.R_apart' (HO177.out) (Kd.R_typed HO154.out) (by decide)) (Kd.R_typed HO171.out) (by decide)) (Kd.R_typed HO174.out) (by decide)) BK159.out (by decide)) BK168.out (by decide)) BK178.out (by decide)).1 k_ hs_.symm).1.2)) (fun hn_ => (Kd.freshB (g := gb168) (o := .cells #[.slice Ao38 t161.length co38, .slice Ao40 t164.length co40] 25 (0, 0)) (kk BK168.out) k_ hn_)), Or.elim hk_ (fun hs_ => Or.elim hs_ (fun hs_ => ((Kd.R_types (Kd.R_types (Kd.R_types (Kd.R_apart' (Kd.R_apart' (Kd.R_apart' (HO174.out) (Kd.R_typed HO157.out) (by decide)) (Kd.R_typed HO171.out) (by decide)) (Kd.R_typed HO177.out) (by decide)) BK159.out (by decide)) BK168.out (by decide)) BK178.out (by decide)).1 k_ hs_.symm).2) (fun hs_ => ((Kd.R_types (Kd.R_types (Kd.R_types (Kd.R_apart' (Kd.R_apart' (Kd.R_apart' (HO177.out) (Kd.R_typed HO154.out) (by decide)) (Kd.R_typed HO171.out) (by decide)) (Kd.R_typed HO174.out) (by decide)) BK159.out (by decide)) BK168.out (by decide)) BK178.out (by decide)).1 k_ hs_.symm).2)) (fun hn_ => (Kd.freshB (g := gb178) (o := .cells #[.slice Ao49 t172.length co49, .slice Ao53 t175.length co53] 25 (0, 0)) (kk BK178.out) k_ hn_))⟩)) bz); have n8_ := aS (Kd.V_lower (Kd.V_mono (ok' := fun k_ => some k_ ≠ (.slice Ao29 t152.length co29 : Value).ownBlock ∧ some k_ ≠ (.slice Ao31 t155.length co31 : Value).ownBlock ∧ some k_ ≠ (.slice Ao46 y169.length co46 : Value).ownBlock ∧ k_ ≠ gb159 ∧ k_ ≠ gb168 ∧ k_ ≠ gb178) ho1 (fun k_ hk_ => ⟨Or.elim hk_ (fun hs_ => Or.elim hs_ (fun hs_ => ((Kd.R_types (Kd.R_types (Kd.R_types (Kd.R_apart' (Kd.R_apart' (Kd.R_apart' (HO174.out) (Kd.R_typed HO157.out) (by decide)) (Kd.R_typed HO171.out) (by decide)) (Kd.R_typed HO177.out) (by decide)) BK159.out (by decide)) BK168.out (by decide)) BK178.out (by decide)).1 k_ hs_.symm).1.1.1.1.1.1.2) (fun hs_ => ((Kd.R_types (Kd.R_types (Kd.R_types (Kd.R_apart' (Kd.R_apart' (Kd.R_apart' (HO177.out) (Kd.R_typed HO154.out) (by decide)) (Kd.R_typed HO171.out) (by decide)) (Kd.R_typed HO174.out) (by decide)) BK159.out (by decide)) BK168.out (by decide)) BK178.out (by decide)).1 k_ hs_.symm).1.1.1.1.1.2)) (fun hn_ => (Kd.fresh' (Kd.R_lt (rr HO154.out)) k_ hn_)), Or.elim hk_ (fun hs_ => Or.elim hs_ (fun hs_ => ((Kd.R_types (Kd.R_types (Kd.R_types (Kd.R_apart' (Kd.R_apart' (Kd.R_apart' (HO174.out) (Kd.R_typed HO157.out) (by decide)) (Kd.R_typed HO171.out) (by decide)) (Kd.R_typed HO177.out) (by decide)) BK159.out (by decide)) BK168.out (by decide)) BK178.out (by decide)).1 k_ hs_.symm).1.1.1.1.1.2) (fun hs_ => ((Kd.R_types (Kd.R_types (Kd.R_types (Kd.R_apart' (Kd.R_apart' (Kd.R_apart' (HO177.out) (Kd.R_typed HO154.out) (by decide)) (Kd.R_typed HO171.out) (by decide)) (Kd.R_typed HO174.out) (by decide)) BK159.out (by decide)) BK168.out (by decide)) BK178.out (by decide)).1 k_ hs_.symm).1.1.1.1.1.1.2)) (fun hn_ => (Kd.fresh' (Kd.R_lt (rr HO157.out)) k_ hn_)), Or.elim hk_ (fun hs_ => Or.elim hs_ (fun hs_ => ((Kd.R_types (Kd.R_types (Kd.R_types (Kd.R_apart' (Kd.R_apart' (Kd.R_apart' (HO174.out) (Kd.R_typed HO157.out) (by decide)) (Kd.R_typed HO171.out) (by decide)) (Kd.R_typed HO177.out) (by decide)) BK159.out (by decide)) BK168.out (by decide)) BK178.out (by decide)).1 k_ hs_.symm).1.1.1.1.2) (fun hs_ => ((Kd.R_types (Kd.R_types (Kd.R_types (Kd.R_apart' (Kd.R_apart' (Kd.R_apart' (HO177.out) (Kd.R_typed HO154.out) (by decide)) (Kd.R_typed HO171.out) (by decide)) (Kd.R_typed HO174.out) (by decide)) BK159.out (by decide)) BK168.out (by decide)) BK178.out (by decide)).1 k_ hs_.symm).1.1.1.1.2)) (fun hn_ => (Kd.fresh' (Kd.R_lt (rr HO171.out)) k_ hn_)), Or.elim hk_ (fun hs_ => Or.elim hs_ (fun hs_ => ((Kd.R_types (Kd.R_types (Kd.R_types (Kd.R_apart' (Kd.R_apart' (Kd.R_apart' (HO174.out) (Kd.R_typed HO157.out) (by decide)) (Kd.R_typed HO171.out) (by decide)) (Kd.R_typed HO177.out) (by decide)) BK159.out (by decide)) BK168.out (by decide)) BK178.out (by decide)).1 k_ hs_.symm).1.1.2) (fun hs_ => ((Kd.R_types (Kd.R_types (Kd.R_types (Kd.R_apart' (Kd.R_apart' (Kd.R_apart' (HO177.out) (Kd.R_typed HO154.out) (by decide)) (Kd.R_typed HO171.out) (by decide)) (Kd.R_typed HO174.out) (by decide)) BK159.out (by decide)) BK168.out (by decide)) BK178.out (by decide)).1 k_ hs_.symm).1.1.2)) (fun hn_ => (Kd.freshB (g := gb159) (o := .cells #[.slice Ao29 t152.length co29, .slice Ao31 t155.length co31] 25 (0, 0)) (kk BK159.out) k_ hn_)), Or.elim hk_ (fun hs_ => Or.elim hs_ (fun hs_ => ((Kd.R_types (Kd.R_types (Kd.R_types (Kd.R_apart' (Kd.R_apart' (Kd.R_apart' (HO174.out) (Kd.R_typed HO157.out) (by decide)) (Kd.R_typed HO171.out) (by decide)) (Kd.R_typed HO177.out) (by decide)) BK159.out (by decide)) BK168.out (by decide)) BK178.out (by decide)).1 k_ hs_.symm).1.2) (fun hs_ => ((Kd.R_types (Kd.R_types (Kd.R_types (Kd.R_apart' (Kd.R_apart' (Kd.R_apart' (HO177.out) (Kd.R_typed HO154.out) (by decide)) (Kd.R_typed HO171.out) (by decide)) (Kd.R_typed HO174.out) (by decide)) BK159.out (by decide)) BK168.out (by decide)) BK178.out (by decide)).1 k_ hs_.symm).1.2)) (fun hn_ => (Kd.freshB (g := gb168) (o := .cells #[.slice Ao38 t161.length co38, .slice Ao40 t164.length co40] 25 (0, 0)) (kk BK168.out) k_ hn_)), Or.elim hk_ (fun hs_ => Or.elim hs_ (fun hs_ => ((Kd.R_types (Kd.R_types (Kd.R_types (Kd.R_apart' (Kd.R_apart' (Kd.R_apart' (HO174.out) (Kd.R_typed HO157.out) (by decide)) (Kd.R_typed HO171.out) (by decide)) (Kd.R_typed HO177.out) (by decide)) BK159.out (by decide)) BK168.out (by decide)) BK178.out (by decide)).1 k_ hs_.symm).2) (fun hs_ => ((Kd.R_types (Kd.R_types (Kd.R_types (Kd.R_apart' (Kd.R_apart' (Kd.R_apart' (HO177.out) (Kd.R_typed HO154.out) (by decide)) (Kd.R_typed HO171.out) (by decide)) (Kd.R_typed HO174.out) (by decide)) BK159.out (by decide)) BK168.out (by decide)) BK178.out (by decide)).1 k_ hs_.symm).2)) (fun hn_ => (Kd.freshB (g := gb178) (o := .cells #[.slice Ao49 t172.length co49, .slice Ao53 t175.length co53] 25 (0, 0)) (kk BK178.out) k_ hn_))⟩)) bz); have n9_ := aS (kb BK159.out hb); have n10_ := aS (kb BK168.out hb); have n11_ := aS (kb BK178.out hb); have n12_ := aS (below_step bb hb); clear HO154; clear HO157; clear HO163; clear HO166; clear HO171; clear HO174; clear HO177; clear BK159; clear BK168; clear BK178; clear HB; have HO154 := n0_; have HO157 := n1_; have HO163 := n2_; have HO166 := n3_; have HO171 := n4_; have HO174 := n5_; have HO177 := n6_; have HO185 := n7_; have HO188 := n8_; have BK159 := n9_; have BK168 := n10_; have BK178 := n11_; have HB := n12_; clear n0_ n1_ n2_ n3_ n4_ n5_ n6_ n7_ n8_ n9_ n10_ n11_ n12_; (try clear hb); (try clear hb2); (try clear hk); (try clear hi); (try clear ho0); (try clear ho1)) | ((with_reducible refine gate_dst (N := 10) rfl ?_); (try (refine gate_guard (by rfl) ?_; dsimp only)); refine box_event ?hg (N := 10) ?hd (cs := #[.slice none 0 0, .slice none 0 0]) (t := 25) ?hr ?_; (case hd => rfl); (case hg => rfl); (case hr => first | (go_simp; done) | (go_simp; rfl)); intro gb190 hg w59 hbox hb; have n0_ := aS (Kd.R_below (rr HO154.out) hb); have n1_ := aS (Kd.R_below (rr HO157.out) hb); have n2_ := aS (Kd.V_below (Kd.V_elderB (vv HO163.out) gb190 (Nat.le_of_eq hg.symm)) hb); have n3_ := aS (Kd.V_below (Kd.V_elderB (vv HO166.out) gb190 (Nat.le_of_eq hg.symm)) hb); have n4_ := aS (Kd.R_below (rr HO171.out) hb); have n5_ := aS (Kd.R_below (rr HO174.out) hb); have n6_ := aS (Kd.R_below (rr HO177.out) hb); have n7_ := aS (Kd.V_below (Kd.V_elderB (vv HO185.out) gb190 (Nat.le_of_eq hg.symm)) hb); have n8_ := aS (Kd.V_below (Kd.V_elderB (vv HO188.out) gb190 (Nat.le_of_eq hg.symm)) hb); have n9_ := aS (kb BK159.out hb); have n10_ := aS (kb BK168.out hb); have n11_ := aS (kb BK178.out hb); have n12_ := aS (below_step bb hb); have n13_ := aS (hbox); have n14_ := aS ((by rw [hg]; exact bz : w.heap.size ≤ gb190)); have n15_ := aS ((by rw [hg]; exact bz : w.heap.size ≤ gb190)); have n16_ := aS ((by rw [hg]; exact Nat.ne_of_lt (blk_lt (g := gb159) (o := .cells #[.slice Ao29 t152.length co29, .slice Ao31 t155.length co31] 25 (0, 0)) (kk BK159.out)) : gb159 ≠ gb190)); have n17_ := aS ((by rw [hg]; exact Nat.ne_of_gt (blk_lt (g := gb159) (o := .cells #[.slice Ao29 t152.length co29, .slice Ao31 t155.length co31] 25 (0, 0)) (kk BK159.out)) : gb190 ≠ gb159)); have n18_ := aS ((by rw [hg]; exact Nat.ne_of_lt (blk_lt (g := gb168) (o := .cells #[.slice Ao38 t161.length co38, .slice Ao40 t164.length co40] 25 (0, 0)) (kk BK168.out)) : gb168 ≠ gb190)); have n19_ := aS ((by rw [hg]; exact Nat.ne_of_gt (blk_lt (g := gb168) (o := .cells #[.slice Ao38 t161.length co38, .slice Ao40 t164.length co40] 25 (0, 0)) (kk BK168.out)) : gb190 ≠ gb168)); have n20_ := aS ((by rw [hg]; exact Nat.ne_of_lt (blk_lt (g := gb178) (o := .cells #[.slice Ao49 t172.length co49, .slice Ao53 t175.length co53] 25 (0, 0)) (kk BK178.out)) : gb178 ≠ gb190)); have n21_ := aS ((by rw [hg]; exact Nat.ne_of_gt (blk_lt (g := gb178) (o := .cells #[.slice Ao49 t172.length co49, .slice Ao53 t175.length co53] 25 (0, 0)) (kk BK178.out)) : gb190 ≠ gb178)); clear HO154; clear HO157; clear HO163; clear HO166; clear HO171; clear HO174; clear HO177; clear HO185; clear HO188; clear BK159; clear BK168; clear BK178; clear HB; have HO154 := n0_; have HO157 := n1_; have HO163 := n2_; have HO166 := n3_; have HO171 := n4_; have HO174 := n5_; have HO177 := n6_; have HO185 := n7_; have HO188 := n8_; have BK159 := n9_; have BK168 := n10_; have BK178 := n11_; have HB := n12_; have BK190 := n13_; have GW190 := n14_; have GE190 := n15_; have NB159_190 := n16_; have NB190_159 := n17_; have NB168_190 := n18_; have NB190_168 := n19_; have NB178_190 := n20_; have NB190_178 := n21_; clear n0_ n1_ n2_ n3_ n4_ n5_ n6_ n7_ n8_ n9_ n10_ n11_ n12_ n13_ n14_ n15_ n16_ n17_ n18_ n19_ n20_ n21_; clear hb hbox hg; obtain ⟨Ao60, co60, eo60⟩ := Kd.V_slice HO185.out; subst eo60; have hnb61 := NB190_159.out; have hnc61 := NB159_190.out; have hnb62 := NB190_168.out; have hnc62 := NB168_190.out; have hnb63 := NB190_178.out; have hnc63 := NB178_190.out; have hcz64_0 : w59.cell? ⟨gb190, 0, none⟩ = some (.slice none 0 0) := (blk_cell BK190.out 0).trans rfl; have hcz64_1 : w59.cell? ⟨gb190, 1, none⟩ = some (.slice none 0 0) := (blk_cell BK190.out 1).trans rfl; have hfz64_0 := blk_frozen BK190.out 0; have hfz64_1 := blk_frozen BK190.out 1; obtain ⟨Ao65, co65, eo65⟩ := Kd.V_slice HO188.out; subst eo65))
 have n0_ : Aside0 (Kd.R Kd.string 9 ((w59.setCell ⟨gb190, 0, none⟩ (.slice Ao60 t183.length co60)).setCell ⟨gb190, 1, none⟩ (.slice Ao65 t186.length co65)) w.heap.size (fun k_ => some k_ ≠ (.slice Ao49 t172.length co49 : Value).ownBlock) (.slice Ao29 t152.length co29) t152) := ⟨by (with_reducible repeat (first | apply Kd.R_alloc | apply Kd.R_drewN | apply Kd.R_drew)); exact Kd.R_mono (Kd.R_far (p := ⟨gb190, 1, none⟩) (Kd.R_far (p := ⟨gb190, 0, none⟩) (Kd.R_types HO154.out BK190.out (by decide)) (fun _ hk => hk.2) (.slice Ao60 t183.length co60)) (fun _ hk => hk.2) (.slice Ao65 t186.length co65)) (fun _ hk => hk.1.2)⟩
 have n1_ : Aside0 (Kd.R k46 46 ((w59.setCell ⟨gb190, 0, none⟩ (.slice Ao60 t183.length co60)).setCell ⟨gb190, 1, none⟩ (.slice Ao65 t186.length co65)) w.heap.size (fun k_ => some k_ ≠ (.slice Ao53 t175.length co53 : Value).ownBlock) (.slice Ao31 t155.length co31) t155) := ⟨by (with_reducible repeat (first | apply Kd.R_alloc | apply Kd.R_drewN | apply Kd.R_drew)); exact Kd.R_mono (Kd.R_far (p := ⟨gb190, 1, none⟩) (Kd.R_far (p := ⟨gb190, 0, none⟩) (Kd.R_types HO157.out BK190.out (by decide)) (fun _ hk => hk.2) (.slice Ao60 t183.length co60)) (fun _ hk => hk.2) (.slice Ao65 t186.length co65)) (fun _ hk => hk.1.2)⟩
 have n2_ : Aside0 (Kd.V Kd.string 9 ((w59.setCell ⟨gb190, 0, none⟩ (.slice Ao60 t183.length co60)).setCell ⟨gb190, 1, none⟩ (.slice Ao65 t186.length co65)) w.heap.size (fun k_ => some k_ ≠ (.slice Ao46 y169.length co46 : Value).ownBlock ∧ some k_ ≠ (.slice Ao49 t172.length co49 : Value).ownBlock ∧ some k_ ≠ (.slice Ao53 t175.length co53 : Value).ownBlock ∧ k_ ≠ gb159 ∧ k_ ≠ gb168 ∧ k_ ≠ gb178 ∧ k_ ≠ gb190) (.slice Ao38 t161.length co38) t161) := ⟨by (with_reducible repeat (first | apply Kd.V_alloc | apply Kd.V_drewN | apply Kd.V_drew)); exact Kd.V_mono (Kd.V_far (p := ⟨gb190, 1, none⟩) (Kd.V_far (p := ⟨gb190, 0, none⟩) (Kd.V_mono HO163.out (fun k_ hk => (⟨hk, hk.2⟩ : _ ∧ k_ ≠ gb190))) (fun _ hk => hk.2) (.slice Ao60 t183.length co60)) (fun _ hk => hk.2) (.slice Ao65 t186.length co65)) (fun _ hk => ⟨hk.1.1.1.1.1.2, ⟨hk.1.1.1.1.2, ⟨hk.1.1.1.2, ⟨hk.1.1.1.1.1.1.1, ⟨hk.1.1.1.1.1.1.2, ⟨hk.1.1.2, hk.1.2⟩⟩⟩⟩⟩⟩)⟩
 have n3_ : Aside0 (Kd.V k46 46 ((w59.setCell ⟨gb190, 0, none⟩ (.slice Ao60 t183.length co60)).setCell ⟨gb190, 1, none⟩ (.slice Ao65 t186.length co65)) w.heap.size (fun k_ => some k_ ≠ (.slice Ao46 y169.length co46 : Value).ownBlock ∧ some k_ ≠ (.slice Ao49 t172.length co49 : Value).ownBlock ∧ some k_ ≠ (.slice Ao53 t175.length co53 : Value).ownBlock ∧ k_ ≠ gb159 ∧ k_ ≠ gb168 ∧ k_ ≠ gb178 ∧ k_ ≠ gb190) (.slice Ao40 t164.length co40) t164) := ⟨by (with_reducible repeat (first | apply Kd.V_alloc | apply Kd.V_drewN | apply Kd.V_drew)); exact Kd.V_mono (Kd.V_far (p := ⟨gb190, 1, none⟩) (Kd.V_far (p := ⟨gb190, 0, none⟩) (Kd.V_mono HO166.out (fun k_ hk => (⟨hk, hk.2⟩ : _ ∧ k_ ≠ gb190))) (fun _ hk => hk.2) (.slice Ao60 t183.length co60)) (fun _ hk => hk.2) (.slice Ao65 t186.length co65)) (fun _ hk => ⟨hk.1.1.1.1.1.2, ⟨hk.1.1.1.1.2, ⟨hk.1.1.1.2, ⟨hk.1.1.1.1.1.1.1, ⟨hk.1.1.1.1.1.1.2, ⟨hk.1.1.2, hk.1.2⟩⟩⟩⟩⟩⟩)⟩
 have n4_ : Aside0 (Kd.R (Kd.int .i64) 3 ((w59.setCell ⟨gb190, 0, none⟩ (.slice Ao60 t183.length co60)).setCell ⟨gb190, 1, none⟩ (.slice Ao65 t186.length co65)) w.heap.size (fun _ => True) (.slice Ao46 y169.length co46) y169) := ⟨by (with_reducible repeat (first | apply Kd.R_alloc | apply Kd.R_drewN | apply Kd.R_drew)); exact Kd.R_mono (Kd.R_far (p := ⟨gb190, 1, none⟩) (Kd.R_far (p := ⟨gb190, 0, none⟩) (Kd.R_types HO171.out BK190.out (by decide)) (fun _ hk => hk.2) (.slice Ao60 t183.length co60)) (fun _ hk => hk.2) (.slice Ao65 t186.length co65)) (fun _ hk => trivial)⟩
 have n5_ : Aside0 (Kd.R Kd.string 9 ((w59.setCell ⟨gb190, 0, none⟩ (.slice Ao60 t183.length co60)).setCell ⟨gb190, 1, none⟩ (.slice Ao65 t186.length co65)) w.heap.size (fun k_ => some k_ ≠ (.slice Ao29 t152.length co29 : Value).ownBlock) (.slice Ao49 t172.length co49) t172) := ⟨by (with_reducible repeat (first | apply Kd.R_alloc | apply Kd.R_drewN | apply Kd.R_drew)); exact Kd.R_mono (Kd.R_far (p := ⟨gb190, 1, none⟩) (Kd.R_far (p := ⟨gb190, 0, none⟩) (Kd.R_types HO174.out BK190.out (by decide)) (fun _ hk => hk.2) (.slice Ao60 t183.length co60)) (fun _ hk => hk.2) (.slice Ao65 t186.length co65)) (fun _ hk => hk.1.2)⟩
 have n6_ : Aside0 (Kd.R k46 46 ((w59.setCell ⟨gb190, 0, none⟩ (.slice Ao60 t183.length co60)).setCell ⟨gb190, 1, none⟩ (.slice Ao65 t186.length co65)) w.heap.size (fun k_ => some k_ ≠ (.slice Ao31 t155.length co31 : Value).ownBlock) (.slice Ao53 t175.length co53) t175) := ⟨by (with_reducible repeat (first | apply Kd.R_alloc | apply Kd.R_drewN | apply Kd.R_drew)); exact Kd.R_mono (Kd.R_far (p := ⟨gb190, 1, none⟩) (Kd.R_far (p := ⟨gb190, 0, none⟩) (Kd.R_types HO177.out BK190.out (by decide)) (fun _ hk => hk.2) (.slice Ao60 t183.length co60)) (fun _ hk => hk.2) (.slice Ao65 t186.length co65)) (fun _ hk => hk.1.2)⟩
 have n7_ : Aside0 (Kd.V Kd.string 9 ((w59.setCell ⟨gb190, 0, none⟩ (.slice Ao60 t183.length co60)).setCell ⟨gb190, 1, none⟩ (.slice Ao65 t186.length co65)) w.heap.size (fun k_ => some k_ ≠ (.slice Ao29 t152.length co29 : Value).ownBlock ∧ some k_ ≠ (.slice Ao31 t155.length co31 : Value).ownBlock ∧ some k_ ≠ (.slice Ao46 y169.length co46 : Value).ownBlock ∧ k_ ≠ gb159 ∧ k_ ≠ gb168 ∧ k_ ≠ gb178 ∧ k_ ≠ gb190) (.slice Ao60 t183.length co60) t183) := ⟨by (with_reducible repeat (first | apply Kd.V_alloc | apply Kd.V_drewN | apply Kd.V_drew)); exact Kd.V_mono (Kd.V_far (p := ⟨gb190, 1, none⟩) (Kd.V_far (p := ⟨gb190, 0, none⟩) (Kd.V_mono HO185.out (fun k_ hk => (⟨hk, hk.2⟩ : _ ∧ k_ ≠ gb190))) (fun _ hk => hk.2) (.slice Ao60 t183.length co60)) (fun _ hk => hk.2) (.slice Ao65 t186.length co65)) (fun _ hk => ⟨hk.1.1.1, ⟨hk.1.1.2.1, ⟨hk.1.1.2.2.1, ⟨hk.1.1.2.2.2.1, ⟨hk.1.1.2.2.2.2.1, ⟨hk.1.1.2.2.2.2.2, hk.1.2⟩⟩⟩⟩⟩⟩)⟩
 have n8_ : Aside0 (Kd.V k46 46 ((w59.setCell ⟨gb190, 0, none⟩ (.slice Ao60 t183.length co60)).setCell ⟨gb190, 1, none⟩ (.slice Ao65 t186.length co65)) w.heap.size (fun k_ => some k_ ≠ (.slice Ao29 t152.length co29 : Value).ownBlock ∧ some k_ ≠ (.slice Ao31 t155.length co31 : Value).ownBlock ∧ some k_ ≠ (.slice Ao46 y169.length co46 : Value).ownBlock ∧ k_ ≠ gb159 ∧ k_ ≠ gb168 ∧ k_ ≠ gb178 ∧ k_ ≠ gb190) (.slice Ao65 t186.length co65) t186) := ⟨by (with_reducible repeat (first | apply Kd.V_alloc | apply Kd.V_drewN | apply Kd.V_drew)); exact Kd.V_mono (Kd.V_far (p := ⟨gb190, 1, none⟩) (Kd.V_far (p := ⟨gb190, 0, none⟩) (Kd.V_mono HO188.out (fun k_ hk => (⟨hk, hk.2⟩ : _ ∧ k_ ≠ gb190))) (fun _ hk => hk.2) (.slice Ao60 t183.length co60)) (fun _ hk => hk.2) (.slice Ao65 t186.length co65)) (fun _ hk => ⟨hk.1.1.1, ⟨hk.1.1.2.1, ⟨hk.1.1.2.2.1, ⟨hk.1.1.2.2.2.1, ⟨hk.1.1.2.2.2.2.1, ⟨hk.1.1.2.2.2.2.2, hk.1.2⟩⟩⟩⟩⟩⟩)⟩
 have n9_ : Aside0 (((w59.setCell ⟨gb190, 0, none⟩ (.slice Ao60 t183.length co60)).setCell ⟨gb190, 1, none⟩ (.slice Ao65 t186.length co65)).heap[gb159]? = some (.cells #[.slice Ao29 t152.length co29, .slice Ao31 t155.length co31] 25 (0, 0))) := ⟨by (with_reducible repeat (first | refine blk_drewN ?_ _ | refine blk_drew ?_ | refine blk_alloc ?_ _)); refine blk_far ?_ NB159_190.out _; (with_reducible repeat (first | refine blk_drewN ?_ _ | refine blk_drew ?_ | refine blk_alloc ?_ _)); refine blk_far ?_ NB159_190.out _; (with_reducible repeat (first | refine blk_drewN ?_ _ | refine blk_drew ?_ | refine blk_alloc ?_ _)); exact BK159.out⟩
 have n10_ : Aside0 (((w59.setCell ⟨gb190, 0, none⟩ (.slice Ao60 t183.length co60)).setCell ⟨gb190, 1, none⟩ (.slice Ao65 t186.length co65)).heap[gb168]? = some (.cells #[.slice Ao38 t161.length co38, .slice Ao40 t164.length co40] 25 (0, 0))) := ⟨by (with_reducible repeat (first | refine blk_drewN ?_ _ | refine blk_drew ?_ | refine blk_alloc ?_ _)); refine blk_far ?_ NB168_190.out _; (with_reducible repeat (first | refine blk_drewN ?_ _ | refine blk_drew ?_ | refine blk_alloc ?_ _)); refine blk_far ?_ NB168_190.out _; (with_reducible repeat (first | refine blk_drewN ?_ _ | refine blk_drew ?_ | refine blk_alloc ?_ _)); exact BK168.out⟩
 have n11_ : Aside0 (((w59.setCell ⟨gb190, 0, none⟩ (.slice Ao60 t183.length co60)).setCell ⟨gb190, 1, none⟩ (.slice Ao65 t186.length co65)).heap[gb178]? = some (.cells #[.slice Ao49 t172.length co49, .slice Ao53 t175.length co53] 25 (0, 0))) := ⟨by (with_reducible repeat (first | refine blk_drewN ?_ _ | refine blk_drew ?_ | refine blk_alloc ?_ _)); refine blk_far ?_ NB178_190.out _; (with_reducible repeat (first | refine blk_drewN ?_ _ | refine blk_drew ?_ | refine blk_alloc ?_ _)); refine blk_far ?_ NB178_190.out _; (with_reducible repeat (first | refine blk_drewN ?_ _ | refine blk_drew ?_ | refine blk_alloc ?_ _)); exact BK178.out⟩
 have n12_ : Aside0 (((w59.setCell ⟨gb190, 0, none⟩ (.slice Ao60 t183.length co60)).setCell ⟨gb190, 1, none⟩ (.slice Ao65 t186.length co65)).heap[gb190]? = some (.cells #[.slice Ao60 t183.length co60, .slice Ao65 t186.length co65] 25 (0, 0))) := ⟨by (with_reducible repeat (first | refine blk_drewN ?_ _ | refine blk_drew ?_ | refine blk_alloc ?_ _)); refine blk_put (cs := #[.slice Ao60 t183.length co60, .slice none 0 0]) ?_ 1 _ rfl; (with_reducible repeat (first | refine blk_drewN ?_ _ | refine blk_drew ?_ | refine blk_alloc ?_ _)); refine blk_put (cs := #[.slice none 0 0, .slice none 0 0]) ?_ 0 _ rfl; (with_reducible repeat (first | refine blk_drewN ?_ _ | refine blk_drew ?_ | refine blk_alloc ?_ _)); exact BK190.out⟩
 have n13_ : Aside0 (Below w.heap.size w ((w59.setCell ⟨gb190, 0, none⟩ (.slice Ao60 t183.length co60)).setCell ⟨gb190, 1, none⟩ (.slice Ao65 t186.length co65))) := ⟨by repeat (first | (with_reducible first | exact HB.out | apply below_alloc | apply pw_below_drewN | apply below_drew1 | refine below_set ?_ GE159.out | refine below_set ?_ GE168.out | refine below_set ?_ GE178.out | refine below_set ?_ GE190.out) | exact HB.out)⟩
 (try clear HO154)
 (try clear HO157)
 (try clear HO163)
 (try clear HO166)
 (try clear HO171)
 (try clear HO174)
 (try clear HO177)
 (try clear HO185)
 (try clear HO188)
 (try clear BK159)
 (try clear BK168)
 (try clear BK178)
 (try clear BK190)
 (try clear HB)
 generalize ((w59.setCell ⟨gb190, 0, none⟩ (.slice Ao60 t183.length co60)).setCell ⟨gb190, 1, none⟩ (.slice Ao65 t186.length co65)) = w66 at n0_ n1_ n2_ n3_ n4_ n5_ n6_ n7_ n8_ n9_ n10_ n11_ n12_ n13_ ⊢
 have HO154 := n0_
 have HO157 := n1_
 have HO163 := n2_
 have HO166 := n3_
 have HO171 := n4_
 have HO174 := n5_
 have HO177 := n6_
 have HO185 := n7_
 have HO188 := n8_
 have BK159 := n9_
 have BK168 := n10_
 have BK178 := n11_
 have BK190 := n12_
 have HB := n13_
 clear n0_ n1_ n2_ n3_ n4_ n5_ n6_ n7_ n8_ n9_ n10_ n11_ n12_ n13_
 have n0_ := aS (Kd.R_drew HO154.out)
 have n1_ := aS (Kd.R_drew HO157.out)
 have n2_ := aS (Kd.V_drew HO163.out)
 have n3_ := aS (Kd.V_drew HO166.out)
 have n4_ := aS (Kd.R_drew HO171.out)
 have n5_ := aS (Kd.R_drew HO174.out)
 have n6_ := aS (Kd.R_drew HO177.out)
 have n7_ := aS (Kd.V_drew HO185.out)
 have n8_ := aS (Kd.V_drew HO188.out)
 have n9_ := aS (blk_drew BK159.out)
 have n10_ := aS (blk_drew BK168.out)
 have n11_ := aS (blk_drew BK178.out)
 have n12_ := aS (blk_drew BK190.out)
 have n13_ := aS (below_drew1 HB.out)
 clear HO154
 clear HO157
 clear HO163
 clear HO166
 clear HO171
 clear HO174
 clear HO177
 clear HO185
 clear HO188
 clear BK159
 clear BK168
 clear BK178
 clear BK190
 clear HB
 have HO154 := n0_
 have HO157 := n1_
 have HO163 := n2_
 have HO166 := n3_
 have HO171 := n4_
 have HO174 := n5_
 have HO177 := n6_
 have HO185 := n7_
 have HO188 := n8_
 have BK159 := n9_
 have BK168 := n10_
 have BK178 := n11_
 have BK190 := n12_
 have HB := n13_
 clear n0_ n1_ n2_ n3_ n4_ n5_ n6_ n7_ n8_ n9_ n10_ n11_ n12_ n13_
 refine start_ (n := 50) (S := fun w' => w'.cell? ⟨gb168, 0, none⟩ = some (.slice Ao38 t161.length co38) ∧ w'.cell? ⟨gb168, 1, none⟩ = some (.slice Ao40 t164.length co40) ∧ w'.cell? ⟨gb159, 0, none⟩ = some (.slice Ao29 t152.length co29) ∧ w'.cell? ⟨gb159, 1, none⟩ = some (.slice Ao31 t155.length co31)) (ds := []) #[false, false, false, false, false, false, false, false, false, false, false, false, false, false, false, false, false, false, false, false, false, false, false, false, false, false, false, false, false, false, false, false, false, false, false, false, false, false, false, false, false, false, false, false, false, false, false, false, false, false] (by kernel_rfl) rfl rfl ⟨(blk_cell BK168.out 0).trans rfl, (blk_cell BK168.out 1).trans rfl, (blk_cell BK159.out 0).trans rfl, (blk_cell BK159.out 1).trans rfl⟩ (fun hHeld => ?_); refine with_tabW hallmootlaw22_sanity.tab7 hallmootlaw22_sanity.bits7 (fun HT_ HW_ => ?_)
 generalize w66.drew = w67 at HO154 HO157 HO163 HO166 HO171 HO174 HO177 HO185 HO188 BK159 BK168 BK178 BK190 HB hHeld ⊢
 refine pure_ (i := 0) (N := some 40) (v := ?_) (a' := ?_) #[true, false, false, false, false, false, false, false, false, false, false, false, false, false, false, false, false, false, false, false, false, false, false, false, false, false, false, false, false, false, false, false, false, false, false, false, false, false, false, false, false, false, false, false, false, false, false, false, false, false] rfl rfl (any_of HT_.out (by kernel_rfl)) (fun _ _ _ h => h) (Or.inl ⟨by rfl, ?_⟩) ?_ ?_
 rotate_left
 {
 intro w'
 go_simp
 with_reducible rfl }
 rotate_left
 {
 simp only [Act.put, sT, s0, s1, i64_w, i32_w]
 rfl }
 refine pure_ (i := 1) (N := some 41) (v := ?_) (a' := ?_) #[true, true, false, false, false, false, false, false, false, false, false, false, false, false, false, false, false, false, false, false, false, false, false, false, false, false, false, false, false, false, false, false, false, false, false, false, false, false, false, false, false, false, false, false, false, false, false, false, false, false] rfl rfl (any_of HT_.out (by kernel_rfl)) (fun _ _ _ h => h) (Or.inl ⟨by rfl, ?_⟩) ?_ ?_
 rotate_left
 {
 intro w'
 go_simp
 with_reducible rfl }
 rotate_left
 {
 simp only [Act.put, sT, s0, s1, i64_w, i32_w]
 rfl }
 refine pure_ (i := 2) (N := some 42) (v := ?_) (a' := ?_) #[true, true, true, false, false, false, false, false, false, false, false, false, false, false, false, false, false, false, false, false, false, false, false, false, false, false, false, false, false, false, false, false, false, false, false, false, false, false, false, false, false, false, false, false, false, false, false, false, false, false] rfl rfl (any_of HT_.out (by kernel_rfl)) (fun _ _ _ h => h) (Or.inl ⟨by rfl, ?_⟩) ?_ ?_
 rotate_left
 {
 intro w'
 go_simp
 with_reducible rfl }
 rotate_left
 {
 simp only [Act.put, sT, s0, s1, i64_w, i32_w]
 rfl }
 refine pure_ (i := 3) (N := some 43) (v := ?_) (a' := ?_) #[true, true, true, true, false, false, false, false, false, false, false, false, false, false, false, false, false, false, false, false, false, false, false, false, false, false, false, false, false, false, false, false, false, false, false, false, false, false, false, false, false, false, false, false, false, false, false, false, false, false] rfl rfl (any_of HT_.out (by kernel_rfl)) (fun _ _ _ h => h) (Or.inl ⟨by rfl, ?_⟩) ?_ ?_
 rotate_left
 {
 intro w'
 go_simp
 with_reducible rfl }
 rotate_left
 {
 simp only [Act.put, sT, s0, s1, i64_w, i32_w]
 rfl }
 refine pure_ (i := 4) (N := some 44) (v := ?_) (a' := ?_) #[true, true, true, true, true, false, false, false, false, false, false, false, false, false, false, false, false, false, false, false, false, false, false, false, false, false, false, false, false, false, false, false, false, false, false, false, false, false, false, false, false, false, false, false, false, false, false, false, false, false] rfl rfl (any_of HT_.out (by kernel_rfl)) (fun _ _ _ h => h) (Or.inl ⟨by rfl, ?_⟩) ?_ ?_
 rotate_left
 {
 intro w'
 go_simp
 with_reducible rfl }
 rotate_left
 {
 simp only [Act.put, sT, s0, s1, i64_w, i32_w]
 rfl }
 refine pure_ (i := 5) (N := some 45) (v := ?_) (a' := ?_) #[true, true, true, true, true, true, false, false, false, false, false, false, false, false, false, false, false, false, false, false, false, false, false, false, false, false, false, false, false, false, false, false, false, false, false, false, false, false, false, false, false, false, false, false, false, false, false, false, false, false] rfl rfl (any_of HT_.out (by kernel_rfl)) (fun _ _ _ h => h) (Or.inl ⟨by rfl, ?_⟩) ?_ ?_
 rotate_left
 {
 intro w'
 go_simp
 with_reducible rfl }
 rotate_left
 {
 simp only [Act.put, sT, s0, s1, i64_w, i32_w]
 rfl }
 refine pure_ (i := 6) (N := some 46) (v := ?_) (a' := ?_) #[true, true, true, true, true, true, true, false, false, false, false, false, false, false, false, false, false, false, false, false, false, false, false, false, false, false, false, false, false, false, false, false, false, false, false, false, false, false, false, false, false, false, false, false, false, false, false, false, false, false] rfl rfl (any_of HT_.out (by kernel_rfl)) (fun _ _ _ h => h) (Or.inl ⟨by rfl, ?_⟩) ?_ ?_
 rotate_left
 {
 intro w'
 go_simp
 with_reducible rfl }
 rotate_left
 {
 simp only [Act.put, sT, s0, s1, i64_w, i32_w]
 rfl }
 refine pure_ (i := 7) (N := some 47) (v := ?_) (a' := ?_) #[true, true, true, true, true, true, true, true, false, false, false, false, false, false, false, false, false, false, false, false, false, false, false, false, false, false, false, false, false, false, false, false, false, false, false, false, false, false, false, false, false, false, false, false, false, false, false, false, false, false] rfl rfl (any_of HT_.out (by kernel_rfl)) (fun _ _ _ h => h) (Or.inl ⟨by rfl, ?_⟩) ?_ ?_
 rotate_left
 {
 intro w'
 go_simp
 with_reducible rfl }
 rotate_left
 {
 simp only [Act.put, sT, s0, s1, i64_w, i32_w]
 rfl }
 refine pure_ (i := 8) (N := some 48) (v := ?_) (a' := ?_) #[true, true, true, true, true, true, true, true, true, false, false, false, false, false, false, false, false, false, false, false, false, false, false, false, false, false, false, false, false, false, false, false, false, false, false, false, false, false, false, false, false, false, false, false, false, false, false, false, false, false] rfl rfl (any_of HT_.out (by kernel_rfl)) (fun _ _ _ h => h) (Or.inl ⟨by rfl, ?_⟩) ?_ ?_
 rotate_left
 {
 intro w'
 go_simp
 with_reducible rfl }
 rotate_left
 {
 simp only [Act.put, sT, s0, s1, i64_w, i32_w]
 rfl }
 refine pure_ (i := 9) (N := some 49) (v := ?_) (a' := ?_) #[true, true, true, true, true, true, true, true, true, true, false, false, false, false, false, false, false, false, false, false, false, false, false, false, false, false, false, false, false, false, false, false, false, false, false, false, false, false, false, false, false, false, false, false, false, false, false, false, false, false] rfl rfl (any_of HT_.out (by kernel_rfl)) (fun _ _ _ h => h) (Or.inl ⟨by rfl, ?_⟩) ?_ ?_
 rotate_left
 {
 intro w'
 go_simp
 with_reducible rfl }
 rotate_left
 {
 simp only [Act.put, sT, s0, s1, i64_w, i32_w]
 rfl }
 refine pure_ (i := 10) (N := some 50) (v := ?_) (a' := ?_) #[true, true, true, true, true, true, true, true, true, true, true, false, false, false, false, false, false, false, false, false, false, false, false, false, false, false, false, false, false, false, false, false, false, false, false, false, false, false, false, false, false, false, false, false, false, false, false, false, false, false] rfl rfl (any_of HT_.out (by kernel_rfl)) (fun _ _ _ h => h) (Or.inl ⟨by rfl, ?_⟩) ?_ ?_
 rotate_left
 {
 intro w'
 go_simp
 with_reducible rfl }
 rotate_left
 {
 simp only [Act.put, sT, s0, s1, i64_w, i32_w]
 rfl }
 refine pure_ (i := 11) (N := some 51) (v := ?_) (a' := ?_) #[true, true, true, true, true, true, true, true, true, true, true, true, false, false, false, false, false, false, false, false, false, false, false, false, false, false, false, false, false, false, false, false, false, false, false, false, false, false, false, false, false, false, false, false, false, false, false, false, false, false] rfl rfl (any_of HT_.out (by kernel_rfl)) (fun _ _ _ h => h) (Or.inl ⟨by rfl, ?_⟩) ?_ ?_
 rotate_left
 {
 intro w'
 go_simp
 with_reducible rfl }
 rotate_left
 {
 simp only [Act.put, sT, s0, s1, i64_w, i32_w]
 rfl }
 refine pure_ (i := 12) (N := some 52) (v := ?_) (a' := ?_) #[true, true, true, true, true, true, true, true, true, true, true, true, true, false, false, false, false, false, false, false, false, false, false, false, false, false, false, false, false, false, false, false, false, false, false, false, false, false, false, false, false, false, false, false, false, false, false, false, false, false] rfl rfl (any_of HT_.out (by kernel_rfl)) (fun _ _ _ h => h) (Or.inl ⟨by rfl, ?_⟩) ?_ ?_
 rotate_left
 {
 intro w'
 go_simp
 with_reducible rfl }
 rotate_left
 {
 simp only [Act.put, sT, s0, s1, i64_w, i32_w]
 rfl }
 refine pure_ (i := 13) (N := some 53) (v := ?_) (a' := ?_) #[true, true, true, true, true, true, true, true, true, true, true, true, true, true, false, false, false, false, false, false, false, false, false, false, false, false, false, false, false, false, false, false, false, false, false, false, false, false, false, false, false, false, false, false, false, false, false, false, false, false] rfl rfl (any_of HT_.out (by kernel_rfl)) (fun _ _ _ h => h) (Or.inl ⟨by rfl, ?_⟩) ?_ ?_
 rotate_left
 {
 intro w'
 go_simp
 with_reducible rfl }
 rotate_left
 {
 simp only [Act.put, sT, s0, s1, i64_w, i32_w]
 rfl }
 refine pure_ (i := 14) (N := some 54) (v := ?_) (a' := ?_) #[true, true, true, true, true, true, true, true, true, true, true, true, true, true, true, false, false, false, false, false, false, false, false, false, false, false, false, false, false, false, false, false, false, false, false, false, false, false, false, false, false, false, false, false, false, false, false, false, false, false] rfl rfl (any_of HT_.out (by kernel_rfl)) (fun _ _ _ h => h) (Or.inl ⟨by rfl, ?_⟩) ?_ ?_
 rotate_left
 {
 intro w'
 go_simp
 with_reducible rfl }
 rotate_left
 {
 simp only [Act.put, sT, s0, s1, i64_w, i32_w]
 rfl }
 refine pure_ (i := 15) (N := some 55) (v := ?_) (a' := ?_) #[true, true, true, true, true, true, true, true, true, true, true, true, true, true, true, true, false, false, false, false, false, false, false, false, false, false, false, false, false, false, false, false, false, false, false, false, false, false, false, false, false, false, false, false, false, false, false, false, false, false] rfl rfl (any_of HT_.out (by kernel_rfl)) (fun _ _ _ h => h) (Or.inl ⟨by rfl, ?_⟩) ?_ ?_
 rotate_left
 {
 intro w'
 go_simp
 with_reducible rfl }
 rotate_left
 {
 simp only [Act.put, sT, s0, s1, i64_w, i32_w]
 rfl }
 refine pure_ (i := 16) (N := some 56) (v := ?_) (a' := ?_) #[true, true, true, true, true, true, true, true, true, true, true, true, true, true, true, true, true, false, false, false, false, false, false, false, false, false, false, false, false, false, false, false, false, false, false, false, false, false, false, false, false, false, false, false, false, false, false, false, false, false] rfl rfl (any_of HT_.out (by kernel_rfl)) (fun _ _ _ h => h) (Or.inl ⟨by rfl, ?_⟩) ?_ ?_
 rotate_left
 {
 intro w'
 go_simp
 with_reducible rfl }
 rotate_left
 {
 simp only [Act.put, sT, s0, s1, i64_w, i32_w]
 rfl }
 refine pure_ (i := 17) (N := some 57) (v := ?_) (a' := ?_) #[true, true, true, true, true, true, true, true, true, true, true, true, true, true, true, true, true, true, false, false, false, false, false, false, false, false, false, false, false, false, false, false, false, false, false, false, false, false, false, false, false, false, false, false, false, false, false, false, false, false] rfl rfl (any_of HT_.out (by kernel_rfl)) (fun _ _ _ h => h) (Or.inl ⟨by rfl, ?_⟩) ?_ ?_
 rotate_left
 {
 intro w'
 go_simp
 with_reducible rfl }
 rotate_left
 {
 simp only [Act.put, sT, s0, s1, i64_w, i32_w]
 rfl }
 refine pure_ (i := 18) (N := some 58) (v := ?_) (a' := ?_) #[true, true, true, true, true, true, true, true, true, true, true, true, true, true, true, true, true, true, true, false, false, false, false, false, false, false, false, false, false, false, false, false, false, false, false, false, false, false, false, false, false, false, false, false, false, false, false, false, false, false] rfl rfl (any_of HT_.out (by kernel_rfl)) (fun _ _ _ h => h) (Or.inl ⟨by rfl, ?_⟩) ?_ ?_
 rotate_left
 {
 intro w'
 go_simp
 with_reducible rfl }
 rotate_left
 {
 simp only [Act.put, sT, s0, s1, i64_w, i32_w]
 rfl }
 refine pure_ (i := 19) (N := some 59) (v := ?_) (a' := ?_) #[true, true, true, true, true, true, true, true, true, true, true, true, true, true, true, true, true, true, true, true, false, false, false, false, false, false, false, false, false, false, false, false, false, false, false, false, false, false, false, false, false, false, false, false, false, false, false, false, false, false] rfl rfl (any_of HT_.out (by kernel_rfl)) (fun _ _ _ h => h) (Or.inl ⟨by rfl, ?_⟩) ?_ ?_
 rotate_left
 {
 intro w'
 go_simp
 with_reducible rfl }
 rotate_left
 {
 simp only [Act.put, sT, s0, s1, i64_w, i32_w]
 rfl }
 refine one_ (i := 20) (N := some 60) #[true, true, true, true, true, true, true, true, true, true, true, true, true, true, true, true, true, true, true, true, true, false, false, false, false, false, false, false, false, false, false, false, false, false, false, false, false, false, false, false, false, false, false, false, false, false, false, false, false, false] rfl rfl (one_of HT_.out (by kernel_rfl)) (by decide) (fun K hK => ?_)
 refine goes_ Try.func24 (by kernel_rfl) rfl #[.int .u8 0] (by rfl) rfl rfl (by (try simp only [List.map_toArray, List.map_cons, List.map_nil]); first | done | rfl | (simp only [List.length_drop, List.length_take]; rfl)) ?_
 with_reducible refine (hallmootlaw22_full.calls k 0 t191 _ A13.out).mono ?_
 rintro e w68 ⟨rfl, hb⟩
 refine ⟨_, rfl, ?_⟩
 have n0_ := aS (Kd.R_below (rr HO154.out) hb)
 have n1_ := aS (Kd.R_below (rr HO157.out) hb)
 have n2_ := aS (Kd.V_below (vv HO163.out) hb)
 have n3_ := aS (Kd.V_below (vv HO166.out) hb)
 have n4_ := aS (Kd.R_below (rr HO171.out) hb)
 have n5_ := aS (Kd.R_below (rr HO174.out) hb)
 have n6_ := aS (Kd.R_below (rr HO177.out) hb)
 have n7_ := aS (Kd.V_below (vv HO185.out) hb)
 have n8_ := aS (Kd.V_below (vv HO188.out) hb)
 have n9_ := aS (kb BK159.out hb)
 have n10_ := aS (kb BK168.out hb)
 have n11_ := aS (kb BK178.out hb)
 have n12_ := aS (kb BK190.out hb)
 have n13_ := aS (below_step bb hb)
 clear HO154
 clear HO157
 clear HO163
 clear HO166
 clear HO171
 clear HO174
 clear HO177
 clear HO185
 clear HO188
 clear BK159
 clear BK168
 clear BK178
 clear BK190
 clear HB
 have HO154 := n0_
 have HO157 := n1_
 have HO163 := n2_
 have HO166 := n3_
 have HO171 := n4_
 have HO174 := n5_
 have HO177 := n6_
 have HO185 := n7_
 have HO188 := n8_
 have BK159 := n9_
 have BK168 := n10_
 have BK178 := n11_
 have BK190 := n12_
 have HB := n13_
 clear n0_ n1_ n2_ n3_ n4_ n5_ n6_ n7_ n8_ n9_ n10_ n11_ n12_ n13_
 (try clear hb)
 (try clear hb2)
 (try clear hk)
 (try clear hi)
 refine hK.out _ _ ⟨(blk_cell BK168.out 0).trans rfl, (blk_cell BK168.out 1).trans rfl, (blk_cell BK159.out 0).trans rfl, (blk_cell BK159.out 1).trans rfl⟩ (fun hHeld => ?_)
 clear hK K
 refine norm_ (a' := ?_) ?_ ?_
 rotate_left
 {
 show Act.put _ (some 60) _ = _
 simp only [Act.put, sT, s0, s1, i64_w, i32_w]
 rfl }
 refine pure_ (i := 21) (N := some 61) (v := ?_) (a' := ?_) #[true, true, true, true, true, true, true, true, true, true, true, true, true, true, true, true, true, true, true, true, true, true, false, false, false, false, false, false, false, false, false, false, false, false, false, false, false, false, false, false, false, false, false, false, false, false, false, false, false, false] rfl rfl (any_of HT_.out (by kernel_rfl)) (fun _ _ _ h => h) (Or.inl ⟨by rfl, ?_⟩) ?_ ?_
 rotate_left
 {
 intro w'
 go_simp
 with_reducible rfl }
 rotate_left
 {
 simp only [Act.put, sT, s0, s1, i64_w, i32_w]
 rfl }
 refine pure_ (i := 22) (N := some 62) (v := ?_) (a' := ?_) #[true, true, true, true, true, true, true, true, true, true, true, true, true, true, true, true, true, true, true, true, true, true, true, false, false, false, false, false, false, false, false, false, false, false, false, false, false, false, false, false, false, false, false, false, false, false, false, false, false, false] rfl rfl (any_of HT_.out (by kernel_rfl)) (fun _ _ _ h => h) (Or.inl ⟨by rfl, ?_⟩) ?_ ?_
 rotate_left
 {
 intro w'
 go_simp
 with_reducible rfl }
 rotate_left
 {
 simp only [Act.put, sT, s0, s1, i64_w, i32_w]
 rfl }
 refine pure_ (i := 23) (N := some 63) (v := ?_) (a' := ?_) #[true, true, true, true, true, true, true, true, true, true, true, true, true, true, true, true, true, true, true, true, true, true, true, true, false, false, false, false, false, false, false, false, false, false, false, false, false, false, false, false, false, false, false, false, false, false, false, false, false, false] rfl rfl (any_of HT_.out (by kernel_rfl)) (fun _ _ _ h => h) (Or.inl ⟨by rfl, ?_⟩) ?_ ?_
 rotate_left
 {
 intro w'
 go_simp
 with_reducible rfl }
 rotate_left
 {
 simp only [Act.put, sT, s0, s1, i64_w, i32_w]
 rfl }
 refine pure_ (i := 24) (N := some 64) (v := ?_) (a' := ?_) #[true, true, true, true, true, true, true, true, true, true, true, true, true, true, true, true, true, true, true, true, true, true, true, true, true, false, false, false, false, false, false, false, false, false, false, false, false, false, false, false, false, false, false, false, false, false, false, false, false, false] rfl rfl (any_of HT_.out (by kernel_rfl)) (fun _ _ _ h => h) (Or.inl ⟨by rfl, ?_⟩) ?_ ?_
 rotate_left
 {
 intro w'
 go_simp
 with_reducible rfl }
 rotate_left
 {
 simp only [Act.put, sT, s0, s1, i64_w, i32_w]
 rfl }
 refine pure_ (i := 25) (N := some 65) (v := ?_) (a' := ?_) #[true, true, true, true, true, true, true, true, true, true, true, true, true, true, true, true, true, true, true, true, true, true, true, true, true, true, false, false, false, false, false, false, false, false, false, false, false, false, false, false, false, false, false, false, false, false, false, false, false, false] rfl rfl (any_of HT_.out (by kernel_rfl)) (fun _ _ _ h => h) (Or.inl ⟨by rfl, ?_⟩) ?_ ?_
 rotate_left
 {
 intro w'
 go_simp
 with_reducible rfl }
 rotate_left
 {
 simp only [Act.put, sT, s0, s1, i64_w, i32_w]
 rfl }
 refine take_ (i := 26) (N := some 66) (v := ?_) (a' := ?_) #[true, true, true, true, true, true, true, true, true, true, true, true, true, true, true, true, true, true, true, true, true, true, true, true, true, true, true, false, false, false, false, false, false, false, false, false, false, false, false, false, false, false, false, false, false, false, false, false, false, false] rfl rfl (take_ofW HT_.out HW_.out (by kernel_rfl)) (fun _ _ _ h => h) (Or.inl ⟨by rfl, ?_⟩) hHeld ?_ ?_
 rotate_left
 {
 rintro w' ⟨s0, s1, s2, s3⟩
 go_simp
 with_reducible rfl }
 rotate_left
 {
 simp only [Act.put, sT, s0, s1, i64_w, i32_w]
 rfl }
 refine take_ (i := 29) (N := some 69) (v := ?_) (a' := ?_) #[true, true, true, true, true, true, true, true, true, true, true, true, true, true, true, true, true, true, true, true, true, true, true, true, true, true, true, false, false, true, false, false, false, false, false, false, false, false, false, false, false, false, false, false, false, false, false, false, false, false] rfl rfl (take_ofW HT_.out HW_.out (by kernel_rfl)) (fun _ _ _ h => h) (Or.inl ⟨by rfl, ?_⟩) hHeld ?_ ?_
 rotate_left
 {
 rintro w' ⟨s0, s1, s2, s3⟩
 go_simp
 with_reducible rfl }
 rotate_left
 {
 simp only [Act.put, sT, s0, s1, i64_w, i32_w]
 rfl }
 refine one_ (i := 27) (N := some 67) #[true, true, true, true, true, true, true, true, true, true, true, true, true, true, true, true, true, true, true, true, true, true, true, true, true, true, true, true, false, true, false, false, false, false, false, false, false, false, false, false, false, false, false, false, false, false, false, false, false, false] rfl rfl (one_of HT_.out (by kernel_rfl)) (by decide) (fun K hK => ?_)
 refine goes_ Try.func19 (by kernel_rfl) rfl #[.agg #[.slice Ao38 t161.length co38, .slice Ao40 t164.length co40]] (by rfl) rfl rfl (by (try simp only [List.map_toArray, List.map_cons, List.map_nil]); first | done | rfl | (simp only [List.length_drop, List.length_take]; rfl)) ?_
 with_reducible refine (disk_Sync.calls _ _ t161 _ _ t164 t192 t195 _ ?side1 ?side2 ?side3 ?side4 A17.out).mono ?_
 (case side1 => repeat (first | exact (Kd.V_reads' HO163.out).2.2 | (with_reducible refine Kd.C_alloc ?_ _) | (with_reducible refine Kd.C_drewN ?_ _) | (with_reducible refine Kd.C_drew ?_)))
 (case side2 => exact (Kd.V_reads' HO163.out).2.1)
 (case side3 => repeat (first | exact (Kd.V_reads' HO166.out).2.2 | (with_reducible refine Kd.C_alloc ?_ _) | (with_reducible refine Kd.C_drewN ?_ _) | (with_reducible refine Kd.C_drew ?_)))
 (case side4 => exact (Kd.V_reads' HO166.out).2.1)
 rintro e w69 ⟨v193, v196, rfl, ho0, ho1, hb⟩
 refine ⟨_, rfl, ?_⟩
 have n0_ := aS (Kd.R_elder' (rr HO154.out) (Kd.R_base ho0) hb)
 have n1_ := aS (Kd.R_elder' (rr HO157.out) (Kd.R_base ho1) hb)
 have n2_ := aS (Kd.V_mono (Kd.V_told (Kd.V_told (Kd.V_old (vv HO163.out) hb) (Kd.R_base ho0)) (Kd.R_base ho1)) (fun _ h_ => h_.1))
 have n3_ := aS (Kd.V_mono (Kd.V_told (Kd.V_told (Kd.V_old (vv HO166.out) hb) (Kd.R_base ho0)) (Kd.R_base ho1)) (fun _ h_ => h_.1))
 have n4_ := aS (Kd.R_below (rr HO171.out) hb)
 have n5_ := aS (Kd.R_elder' (rr HO174.out) (Kd.R_base ho0) hb)
 have n6_ := aS (Kd.R_elder' (rr HO177.out) (Kd.R_base ho1) hb)
 have n7_ := aS (Kd.V_mono (Kd.V_told (Kd.V_told (Kd.V_old (vv HO185.out) hb) (Kd.R_base ho0)) (Kd.R_base ho1)) (fun _ h_ => h_.1))
 have n8_ := aS (Kd.V_mono (Kd.V_told (Kd.V_told (Kd.V_old (vv HO188.out) hb) (Kd.R_base ho0)) (Kd.R_base ho1)) (fun _ h_ => h_.1))
 have n9_ := aS (Kd.R_lower (Kd.R_new' (Kd.R_new' ho0 (Kd.R_lt (rr HO154.out))) (Kd.R_lt (rr HO174.out))) bz)
 have n10_ := aS (Kd.R_lower (Kd.R_new' (Kd.R_new' ho1 (Kd.R_lt (rr HO157.out))) (Kd.R_lt (rr HO177.out))) bz)
 have n11_ := aS (kb BK159.out hb)
 have n12_ := aS (kb BK168.out hb)
 have n13_ := aS (kb BK178.out hb)
 have n14_ := aS (kb BK190.out hb)
 have n15_ := aS (below_step bb hb)
 clear HO154
 clear HO157
 clear HO163
 clear HO166
 clear HO171
 clear HO174
 clear HO177
 clear HO185
 clear HO188
 clear BK159
 clear BK168
 clear BK178
 clear BK190
 clear HB
 have HO154 := n0_
 have HO157 := n1_
 have HO163 := n2_
 have HO166 := n3_
 have HO171 := n4_
 have HO174 := n5_
 have HO177 := n6_
 have HO185 := n7_
 have HO188 := n8_
 have HO194 := n9_
 have HO197 := n10_
 have BK159 := n11_
 have BK168 := n12_
 have BK178 := n13_
 have BK190 := n14_
 have HB := n15_
 clear n0_ n1_ n2_ n3_ n4_ n5_ n6_ n7_ n8_ n9_ n10_ n11_ n12_ n13_ n14_ n15_
 (try clear hb)
 (try clear hb2)
 (try clear hk)
 (try clear hi)
 (try clear ho0)
 (try clear ho1)
 obtain ⟨Ao70, co70, eo70⟩ := Kd.R_slice HO194.out
 (first | subst eo70 | (injection eo70 with f1_ f2_ f3_; have f4_ := f1_.symm; have f5_ := f3_.symm; clear f1_ f2_ f3_; subst f4_; subst f5_))
 obtain ⟨Ao71, co71, eo71⟩ := Kd.R_slice HO197.out
 (first | subst eo71 | (injection eo71 with f1_ f2_ f3_; have f4_ := f1_.symm; have f5_ := f3_.symm; clear f1_ f2_ f3_; subst f4_; subst f5_))
 refine hK.out _ _ ⟨(blk_cell BK168.out 0).trans rfl, (blk_cell BK168.out 1).trans rfl, (blk_cell BK159.out 0).trans rfl, (blk_cell BK159.out 1).trans rfl⟩ (fun hHeld => ?_)
 clear hK K
 refine norm_ (a' := ?_) ?_ ?_
 rotate_left
 {
 show Act.put _ (some 67) _ = _
 simp only [Act.put, sT, s0, s1, i64_w, i32_w]
 rfl }
 refine one_ (i := 28) (N := some 68) #[true, true, true, true, true, true, true, true, true, true, true, true, true, true, true, true, true, true, true, true, true, true, true, true, true, true, true, true, true, true, false, false, false, false, false, false, false, false, false, false, false, false, false, false, false, false, false, false, false, false] rfl rfl (one_of HT_.out (by kernel_rfl)) (by decide) (fun K hK => ?_)
 refine goes_ Try.func21 (by kernel_rfl) rfl #[.agg #[.slice Ao70 t192.length co70, .slice Ao71 t195.length co71], .slice none 0 0] (by rfl) rfl rfl (by (try simp only [List.map_toArray, List.map_cons, List.map_nil]); first | done | rfl | (simp only [List.length_drop, List.length_take]; rfl)) ?_
 refine (dCrash.calls _ _ t192 _ _ t195 _ _ ([] : List Int) t198 t201 _ ?side1 ?side2 ?side3 ?side4 ?side5 ?side6 A18.out).mono ?_
 (case side1 => repeat (first | exact (Kd.R_reads' HO194.out).2.2 | (with_reducible refine Kd.C_alloc ?_ _) | (with_reducible refine Kd.C_drewN ?_ _) | (with_reducible refine Kd.C_drew ?_)))
 (case side2 => exact (Kd.R_reads' HO194.out).2.1)
 (case side3 => repeat (first | exact (Kd.R_reads' HO197.out).2.2 | (with_reducible refine Kd.C_alloc ?_ _) | (with_reducible refine Kd.C_drewN ?_ _) | (with_reducible refine Kd.C_drew ?_)))
 (case side4 => exact (Kd.R_reads' HO197.out).2.1)
 (case side5 => exact Kd.C_nil _ _)
 (case side6 => exact Nat.le_refl _)
 rintro e w72 ⟨v199, v202, rfl, ho0, ho1, hb⟩
 refine ⟨_, rfl, ?_⟩
 have n0_ := aS (Kd.R_elder' (rr HO154.out) (Kd.R_base ho0) hb)
 have n1_ := aS (Kd.R_elder' (rr HO157.out) (Kd.R_base ho1) hb)
 have n2_ := aS (Kd.V_mono (Kd.V_told (Kd.V_told (Kd.V_old (vv HO163.out) hb) (Kd.R_base ho0)) (Kd.R_base ho1)) (fun _ h_ => h_.1))
 have n3_ := aS (Kd.V_mono (Kd.V_told (Kd.V_told (Kd.V_old (vv HO166.out) hb) (Kd.R_base ho0)) (Kd.R_base ho1)) (fun _ h_ => h_.1))
 have n4_ := aS (Kd.R_below (rr HO171.out) hb)
 have n5_ := aS (Kd.R_elder' (rr HO174.out) (Kd.R_base ho0) hb)
 have n6_ := aS (Kd.R_elder' (rr HO177.out) (Kd.R_base ho1) hb)
 have n7_ := aS (Kd.V_mono (Kd.V_told (Kd.V_told (Kd.V_old (vv HO185.out) hb) (Kd.R_base ho0)) (Kd.R_base ho1)) (fun _ h_ => h_.1))
 have n8_ := aS (Kd.V_mono (Kd.V_told (Kd.V_told (Kd.V_old (vv HO188.out) hb) (Kd.R_base ho0)) (Kd.R_base ho1)) (fun _ h_ => h_.1))
 have n9_ := aS (Kd.R_elder' (rr HO194.out) (Kd.R_base ho0) hb)
 have n10_ := aS (Kd.R_elder' (rr HO197.out) (Kd.R_base ho1) hb)
 have n11_ := aS (Kd.R_lower (Kd.R_new' (Kd.R_new' (Kd.R_new' ho0 (Kd.R_lt (rr HO154.out))) (Kd.R_lt (rr HO174.out))) (Kd.R_lt (rr HO194.out))) bz)
 have n12_ := aS (Kd.R_lower (Kd.R_new' (Kd.R_new' (Kd.R_new' ho1 (Kd.R_lt (rr HO157.out))) (Kd.R_lt (rr HO177.out))) (Kd.R_lt (rr HO197.out))) bz)
 have n13_ := aS (kb BK159.out hb)
 have n14_ := aS (kb BK168.out hb)
 have n15_ := aS (kb BK178.out hb)
 have n16_ := aS (kb BK190.out hb)
 have n17_ := aS (below_step bb hb)
 clear HO154
 clear HO157
 clear HO163
 clear HO166
 clear HO171
 clear HO174
 clear HO177
 clear HO185
 clear HO188
 clear HO194
 clear HO197
 clear BK159
 clear BK168
 clear BK178
 clear BK190
 clear HB
 have HO154 := n0_
 have HO157 := n1_
 have HO163 := n2_
 have HO166 := n3_
 have HO171 := n4_
 have HO174 := n5_
 have HO177 := n6_
 have HO185 := n7_
 have HO188 := n8_
 have HO194 := n9_
 have HO197 := n10_
 have HO200 := n11_
 have HO203 := n12_
 have BK159 := n13_
 have BK168 := n14_
 have BK178 := n15_
 have BK190 := n16_
 have HB := n17_
 clear n0_ n1_ n2_ n3_ n4_ n5_ n6_ n7_ n8_ n9_ n10_ n11_ n12_ n13_ n14_ n15_ n16_ n17_
 (try clear hb)
 (try clear hb2)
 (try clear hk)
 (try clear hi)
 (try clear ho0)
 (try clear ho1)
 refine hK.out _ _ ⟨(blk_cell BK168.out 0).trans rfl, (blk_cell BK168.out 1).trans rfl, (blk_cell BK159.out 0).trans rfl, (blk_cell BK159.out 1).trans rfl⟩ (fun hHeld => ?_)
 clear hK K
 refine norm_ (a' := ?_) ?_ ?_
 rotate_left
 {
 show Act.put _ (some 68) _ = _
 simp only [Act.put, sT, s0, s1, i64_w, i32_w]
 rfl }
 refine one_ (i := 30) (N := some 70) #[true, true, true, true, true, true, true, true, true, true, true, true, true, true, true, true, true, true, true, true, true, true, true, true, true, true, true, true, true, true, true, false, false, false, false, false, false, false, false, false, false, false, false, false, false, false, false, false, false, false] rfl rfl (one_of HT_.out (by kernel_rfl)) (by decide) (fun K hK => ?_)
 refine goes_ Try.func19 (by kernel_rfl) rfl #[.agg #[.slice Ao38 t161.length co38, .slice Ao40 t164.length co40]] (by rfl) rfl rfl (by (try simp only [List.map_toArray, List.map_cons, List.map_nil]); first | done | rfl | (simp only [List.length_drop, List.length_take]; rfl)) ?_
 with_reducible refine (disk_Sync.calls _ _ t161 _ _ t164 t204 t207 _ ?side1 ?side2 ?side3 ?side4 A19.out).mono ?_
 (case side1 => repeat (first | exact (Kd.V_reads' HO163.out).2.2 | (with_reducible refine Kd.C_alloc ?_ _) | (with_reducible refine Kd.C_drewN ?_ _) | (with_reducible refine Kd.C_drew ?_)))
 (case side2 => exact (Kd.V_reads' HO163.out).2.1)
 (case side3 => repeat (first | exact (Kd.V_reads' HO166.out).2.2 | (with_reducible refine Kd.C_alloc ?_ _) | (with_reducible refine Kd.C_drewN ?_ _) | (with_reducible refine Kd.C_drew ?_)))
 (case side4 => exact (Kd.V_reads' HO166.out).2.1)
 rintro e w73 ⟨v205, v208, rfl, ho0, ho1, hb⟩
 refine ⟨_, rfl, ?_⟩
 have n0_ := aS (Kd.R_elder' (rr HO154.out) (Kd.R_base ho0) hb)
 have n1_ := aS (Kd.R_elder' (rr HO157.out) (Kd.R_base ho1) hb)
 have n2_ := aS (Kd.V_mono (Kd.V_told (Kd.V_told (Kd.V_old (vv HO163.out) hb) (Kd.R_base ho0)) (Kd.R_base ho1)) (fun _ h_ => h_.1))
 have n3_ := aS (Kd.V_mono (Kd.V_told (Kd.V_told (Kd.V_old (vv HO166.out) hb) (Kd.R_base ho0)) (Kd.R_base ho1)) (fun _ h_ => h_.1))
 have n4_ := aS (Kd.R_below (rr HO171.out) hb)
 have n5_ := aS (Kd.R_elder' (rr HO174.out) (Kd.R_base ho0) hb)
 have n6_ := aS (Kd.R_elder' (rr HO177.out) (Kd.R_base ho1) hb)
 have n7_ := aS (Kd.V_mono (Kd.V_told (Kd.V_told (Kd.V_old (vv HO185.out) hb) (Kd.R_base ho0)) (Kd.R_base ho1)) (fun _ h_ => h_.1))
 have n8_ := aS (Kd.V_mono (Kd.V_told (Kd.V_told (Kd.V_old (vv HO188.out) hb) (Kd.R_base ho0)) (Kd.R_base ho1)) (fun _ h_ => h_.1))
 have n9_ := aS (Kd.R_elder' (rr HO194.out) (Kd.R_base ho0) hb)
 have n10_ := aS (Kd.R_elder' (rr HO197.out) (Kd.R_base ho1) hb)
 have n11_ := aS (Kd.R_elder' (rr HO200.out) (Kd.R_base ho0) hb)
 have n12_ := aS (Kd.R_elder' (rr HO203.out) (Kd.R_base ho1) hb)
 have n13_ := aS (Kd.R_lower (Kd.R_new' (Kd.R_new' (Kd.R_new' (Kd.R_new' ho0 (Kd.R_lt (rr HO154.out))) (Kd.R_lt (rr HO174.out))) (Kd.R_lt (rr HO194.out))) (Kd.R_lt (rr HO200.out))) bz)
 have n14_ := aS (Kd.R_lower (Kd.R_new' (Kd.R_new' (Kd.R_new' (Kd.R_new' ho1 (Kd.R_lt (rr HO157.out))) (Kd.R_lt (rr HO177.out))) (Kd.R_lt (rr HO197.out))) (Kd.R_lt (rr HO203.out))) bz)
 have n15_ := aS (kb BK159.out hb)
 have n16_ := aS (kb BK168.out hb)
 have n17_ := aS (kb BK178.out hb)
 have n18_ := aS (kb BK190.out hb)
 have n19_ := aS (below_step bb hb)
 clear HO154
 clear HO157
 clear HO163
 clear HO166
 clear HO171
 clear HO174
 clear HO177
 clear HO185
 clear HO188
 clear HO194
 clear HO197
 clear HO200
 clear HO203
 clear BK159
 clear BK168
 clear BK178
 clear BK190
 clear HB
 have HO154 := n0_
 have HO157 := n1_
 have HO163 := n2_
 have HO166 := n3_
 have HO171 := n4_
 have HO174 := n5_
 have HO177 := n6_
 have HO185 := n7_
 have HO188 := n8_
 have HO194 := n9_
 have HO197 := n10_
 have HO200 := n11_
 have HO203 := n12_
 have HO206 := n13_
 have HO209 := n14_
 have BK159 := n15_
 have BK168 := n16_
 have BK178 := n17_
 have BK190 := n18_
 have HB := n19_
 clear n0_ n1_ n2_ n3_ n4_ n5_ n6_ n7_ n8_ n9_ n10_ n11_ n12_ n13_ n14_ n15_ n16_ n17_ n18_ n19_
 (try clear hb)
 (try clear hb2)
 (try clear hk)
 (try clear hi)
 (try clear ho0)
 (try clear ho1)
 obtain ⟨Ao74, co74, eo74⟩ := Kd.R_slice HO200.out
 (first | subst eo74 | (injection eo74 with f1_ f2_ f3_; have f4_ := f1_.symm; have f5_ := f3_.symm; clear f1_ f2_ f3_; subst f4_; subst f5_))
 obtain ⟨Ao75, co75, eo75⟩ := Kd.R_slice HO203.out
 (first | subst eo75 | (injection eo75 with f1_ f2_ f3_; have f4_ := f1_.symm; have f5_ := f3_.symm; clear f1_ f2_ f3_; subst f4_; subst f5_))
 obtain ⟨Ao76, co76, eo76⟩ := Kd.R_slice HO206.out
 (first | subst eo76 | (injection eo76 with f1_ f2_ f3_; have f4_ := f1_.symm; have f5_ := f3_.symm; clear f1_ f2_ f3_; subst f4_; subst f5_))
 obtain ⟨Ao77, co77, eo77⟩ := Kd.R_slice HO209.out
 (first | subst eo77 | (injection eo77 with f1_ f2_ f3_; have f4_ := f1_.symm; have f5_ := f3_.symm; clear f1_ f2_ f3_; subst f4_; subst f5_))
 refine hK.out _ _ ⟨(blk_cell BK168.out 0).trans rfl, (blk_cell BK168.out 1).trans rfl, (blk_cell BK159.out 0).trans rfl, (blk_cell BK159.out 1).trans rfl⟩ (fun hHeld => ?_)
 clear hK K
 refine norm_ (a' := ?_) ?_ ?_
 rotate_left
 {
 show Act.put _ (some 70) _ = _
 simp only [Act.put, sT, s0, s1, i64_w, i32_w]
 rfl }
 refine one_ (i := 31) (N := some 71) #[true, true, true, true, true, true, true, true, true, true, true, true, true, true, true, true, true, true, true, true, true, true, true, true, true, true, true, true, true, true, true, true, false, false, false, false, false, false, false, false, false, false, false, false, false, false, false, false, false, false] rfl rfl (one_of HT_.out (by kernel_rfl)) (by decide) (fun K hK => ?_)
 refine goes_ Try.func13 (by kernel_rfl) rfl #[.agg #[.slice Ao74 t198.length co74, .slice Ao75 t201.length co75], .agg #[.slice Ao76 t204.length co76, .slice Ao77 t207.length co77]] (by rfl) rfl rfl (by (try simp only [List.map_toArray, List.map_cons, List.map_nil]); first | done | rfl | (simp only [List.length_drop, List.length_take]; rfl)) ?_
 with_reducible refine (disk_Same.calls k _ _ t198 _ _ t201 _ _ t204 _ _ t207 true _ ?side1 ?side2 ?side3 ?side4 ?side5 ?side6 ?side7 ?side8 A20.out).mono ?_
 (case side1 => repeat (first | exact (Kd.R_reads' HO200.out).2.2 | (with_reducible refine Kd.C_alloc ?_ _) | (with_reducible refine Kd.C_drewN ?_ _) | (with_reducible refine Kd.C_drew ?_)))
 (case side2 => exact (Kd.R_reads' HO200.out).2.1)
 (case side3 => repeat (first | exact (Kd.R_reads' HO203.out).2.2 | (with_reducible refine Kd.C_alloc ?_ _) | (with_reducible refine Kd.C_drewN ?_ _) | (with_reducible refine Kd.C_drew ?_)))
 (case side4 => exact (Kd.R_reads' HO203.out).2.1)
 (case side5 => repeat (first | exact (Kd.R_reads' HO206.out).2.2 | (with_reducible refine Kd.C_alloc ?_ _) | (with_reducible refine Kd.C_drewN ?_ _) | (with_reducible refine Kd.C_drew ?_)))
 (case side6 => exact (Kd.R_reads' HO206.out).2.1)
 (case side7 => repeat (first | exact (Kd.R_reads' HO209.out).2.2 | (with_reducible refine Kd.C_alloc ?_ _) | (with_reducible refine Kd.C_drewN ?_ _) | (with_reducible refine Kd.C_drew ?_)))
 (case side8 => exact (Kd.R_reads' HO209.out).2.1)
 rintro e w78 ⟨rfl, hb⟩
 refine ⟨_, rfl, ?_⟩
 have n0_ := aS (Kd.R_below (rr HO154.out) hb)
 have n1_ := aS (Kd.R_below (rr HO157.out) hb)
 have n2_ := aS (Kd.V_below (vv HO163.out) hb)
 have n3_ := aS (Kd.V_below (vv HO166.out) hb)
 have n4_ := aS (Kd.R_below (rr HO171.out) hb)
 have n5_ := aS (Kd.R_below (rr HO174.out) hb)
 have n6_ := aS (Kd.R_below (rr HO177.out) hb)
 have n7_ := aS (Kd.V_below (vv HO185.out) hb)
 have n8_ := aS (Kd.V_below (vv HO188.out) hb)
 have n9_ := aS (Kd.R_below (rr HO194.out) hb)
 have n10_ := aS (Kd.R_below (rr HO197.out) hb)
 have n11_ := aS (Kd.R_below (rr HO200.out) hb)
 have n12_ := aS (Kd.R_below (rr HO203.out) hb)
 have n13_ := aS (Kd.R_below (rr HO206.out) hb)
 have n14_ := aS (Kd.R_below (rr HO209.out) hb)
 have n15_ := aS (kb BK159.out hb)
 have n16_ := aS (kb BK168.out hb)
 have n17_ := aS (kb BK178.out hb)
 have n18_ := aS (kb BK190.out hb)
 have n19_ := aS (below_step bb hb)
 clear HO154
 clear HO157
 clear HO163
 clear HO166
 clear HO171
 clear HO174
 clear HO177
 clear HO185
 clear HO188
 clear HO194
 clear HO197
 clear HO200
 clear HO203
 clear HO206
 clear HO209
 clear BK159
 clear BK168
 clear BK178
 clear BK190
 clear HB
 have HO154 := n0_
 have HO157 := n1_
 have HO163 := n2_
 have HO166 := n3_
 have HO171 := n4_
 have HO174 := n5_
 have HO177 := n6_
 have HO185 := n7_
 have HO188 := n8_
 have HO194 := n9_
 have HO197 := n10_
 have HO200 := n11_
 have HO203 := n12_
 have HO206 := n13_
 have HO209 := n14_
 have BK159 := n15_
 have BK168 := n16_
 have BK178 := n17_
 have BK190 := n18_
 have HB := n19_
 clear n0_ n1_ n2_ n3_ n4_ n5_ n6_ n7_ n8_ n9_ n10_ n11_ n12_ n13_ n14_ n15_ n16_ n17_ n18_ n19_
 (try clear hb)
 (try clear hb2)
 (try clear hk)
 (try clear hi)
 refine hK.out _ _ ⟨(blk_cell BK168.out 0).trans rfl, (blk_cell BK168.out 1).trans rfl, (blk_cell BK159.out 0).trans rfl, (blk_cell BK159.out 1).trans rfl⟩ (fun hHeld => ?_)
 clear hK K
 refine norm_ (a' := ?_) ?_ ?_
 rotate_left
 {
 show Act.put _ (some 71) _ = _
 simp only [Act.put, sT, s0, s1, i64_w, i32_w]
 rfl }
 refine pure_ (i := 32) (N := some 72) (v := ?_) (a' := ?_) #[true, true, true, true, true, true, true, true, true, true, true, true, true, true, true, true, true, true, true, true, true, true, true, true, true, true, true, true, true, true, true, true, true, false, false, false, false, false, false, false, false, false, false, false, false, false, false, false, false, false] rfl rfl (any_of HT_.out (by kernel_rfl)) (fun _ _ _ h => h) (Or.inl ⟨by rfl, ?_⟩) ?_ ?_
 rotate_left
 {
 intro w'
 go_simp
 with_reducible rfl }
 rotate_left
 {
 simp only [Act.put, sT, s0, s1, i64_w, i32_w]
 rfl }
 refine pure_ (i := 33) (N := some 73) (v := ?_) (a' := ?_) #[true, true, true, true, true, true, true, true, true, true, true, true, true, true, true, true, true, true, true, true, true, true, true, true, true, true, true, true, true, true, true, true, true, true, false, false, false, false, false, false, false, false, false, false, false, false, false, false, false, false] rfl rfl (any_of HT_.out (by kernel_rfl)) (fun _ _ _ h => h) (Or.inl ⟨by rfl, ?_⟩) ?_ ?_
 rotate_left
 {
 intro w'
 go_simp
 with_reducible rfl }
 rotate_left
 {
 simp only [Act.put, sT, s0, s1, i64_w, i32_w]
 rfl }
 refine take_ (i := 34) (N := some 74) (v := ?_) (a' := ?_) #[true, true, true, true, true, true, true, true, true, true, true, true, true, true, true, true, true, true, true, true, true, true, true, true, true, true, true, true, true, true, true, true, true, true, true, false, false, false, false, false, false, false, false, false, false, false, false, false, false, false] rfl rfl (take_ofW HT_.out HW_.out (by kernel_rfl)) (fun _ _ _ h => h) (Or.inl ⟨by rfl, ?_⟩) hHeld ?_ ?_
 rotate_left
 {
 rintro w' ⟨s0, s1, s2, s3⟩
 go_simp
 with_reducible rfl }
 rotate_left
 {
 simp only [Act.put, sT, s0, s1, i64_w, i32_w]
 rfl }
 refine one_ (i := 35) (N := some 75) #[true, true, true, true, true, true, true, true, true, true, true, true, true, true, true, true, true, true, true, true, true, true, true, true, true, true, true, true, true, true, true, true, true, true, true, true, false, false, false, false, false, false, false, false, false, false, false, false, false, false] rfl rfl (one_of HT_.out (by kernel_rfl)) (by decide) (fun K hK => ?_)
 refine goes_ Try.func12 (by kernel_rfl) rfl #[.agg #[.slice Ao38 t161.length co38, .slice Ao40 t164.length co40]] (by rfl) rfl rfl (by (try simp only [List.map_toArray, List.map_cons, List.map_nil]); first | done | rfl | (simp only [List.length_drop, List.length_take]; rfl)) ?_
 with_reducible refine (dRight.calls _ _ t161 _ _ t164 true _ ?side1 ?side2 ?side3 ?side4 A22.out).mono ?_
 (case side1 => repeat (first | exact (Kd.V_reads' HO163.out).2.2 | (with_reducible refine Kd.C_alloc ?_ _) | (with_reducible refine Kd.C_drewN ?_ _) | (with_reducible refine Kd.C_drew ?_)))
 (case side2 => exact (Kd.V_reads' HO163.out).2.1)
 (case side3 => repeat (first | exact (Kd.V_reads' HO166.out).2.2 | (with_reducible refine Kd.C_alloc ?_ _) | (with_reducible refine Kd.C_drewN ?_ _) | (with_reducible refine Kd.C_drew ?_)))
 (case side4 => exact (Kd.V_reads' HO166.out).2.1)
 rintro e w79 ⟨rfl, hb⟩
 refine ⟨_, rfl, ?_⟩
 have n0_ := aS (Kd.R_below (rr HO154.out) hb)
 have n1_ := aS (Kd.R_below (rr HO157.out) hb)
 have n2_ := aS (Kd.V_below (vv HO163.out) hb)
 have n3_ := aS (Kd.V_below (vv HO166.out) hb)
 have n4_ := aS (Kd.R_below (rr HO171.out) hb)
 have n5_ := aS (Kd.R_below (rr HO174.out) hb)
 have n6_ := aS (Kd.R_below (rr HO177.out) hb)
 have n7_ := aS (Kd.V_below (vv HO185.out) hb)
 have n8_ := aS (Kd.V_below (vv HO188.out) hb)
 have n9_ := aS (Kd.R_below (rr HO194.out) hb)
 have n10_ := aS (Kd.R_below (rr HO197.out) hb)
 have n11_ := aS (Kd.R_below (rr HO200.out) hb)
 have n12_ := aS (Kd.R_below (rr HO203.out) hb)
 have n13_ := aS (Kd.R_below (rr HO206.out) hb)
 have n14_ := aS (Kd.R_below (rr HO209.out) hb)
 have n15_ := aS (kb BK159.out hb)
 have n16_ := aS (kb BK168.out hb)
 have n17_ := aS (kb BK178.out hb)
 have n18_ := aS (kb BK190.out hb)
 have n19_ := aS (below_step bb hb)
 clear HO154
 clear HO157
 clear HO163
 clear HO166
 clear HO171
 clear HO174
 clear HO177
 clear HO185
 clear HO188
 clear HO194
 clear HO197
 clear HO200
 clear HO203
 clear HO206
 clear HO209
 clear BK159
 clear BK168
 clear BK178
 clear BK190
 clear HB
 have HO154 := n0_
 have HO157 := n1_
 have HO163 := n2_
 have HO166 := n3_
 have HO171 := n4_
 have HO174 := n5_
 have HO177 := n6_
 have HO185 := n7_
 have HO188 := n8_
 have HO194 := n9_
 have HO197 := n10_
 have HO200 := n11_
 have HO203 := n12_
 have HO206 := n13_
 have HO209 := n14_
 have BK159 := n15_
 have BK168 := n16_
 have BK178 := n17_
 have BK190 := n18_
 have HB := n19_
 clear n0_ n1_ n2_ n3_ n4_ n5_ n6_ n7_ n8_ n9_ n10_ n11_ n12_ n13_ n14_ n15_ n16_ n17_ n18_ n19_
 (try clear hb)
 (try clear hb2)
 (try clear hk)
 (try clear hi)
 refine hK.out _ _ ⟨(blk_cell BK168.out 0).trans rfl, (blk_cell BK168.out 1).trans rfl, (blk_cell BK159.out 0).trans rfl, (blk_cell BK159.out 1).trans rfl⟩ (fun hHeld => ?_)
 clear hK K
 refine norm_ (a' := ?_) ?_ ?_
 rotate_left
 {
 show Act.put _ (some 75) _ = _
 simp only [Act.put, sT, s0, s1, i64_w, i32_w]
 rfl }
 refine pure_ (i := 36) (N := some 76) (v := ?_) (a' := ?_) #[true, true, true, true, true, true, true, true, true, true, true, true, true, true, true, true, true, true, true, true, true, true, true, true, true, true, true, true, true, true, true, true, true, true, true, true, true, false, false, false, false, false, false, false, false, false, false, false, false, false] rfl rfl (any_of HT_.out (by kernel_rfl)) (fun _ _ _ h => h) (Or.inl ⟨by rfl, ?_⟩) ?_ ?_
 rotate_left
 {
 intro w'
 go_simp
 with_reducible rfl }
 rotate_left
 {
 simp only [Act.put, sT, s0, s1, i64_w, i32_w]
 rfl }
 refine pure_ (i := 37) (N := some 77) (v := ?_) (a' := ?_) #[true, true, true, true, true, true, true, true, true, true, true, true, true, true, true, true, true, true, true, true, true, true, true, true, true, true, true, true, true, true, true, true, true, true, true, true, true, true, false, false, false, false, false, false, false, false, false, false, false, false] rfl rfl (any_of HT_.out (by kernel_rfl)) (fun _ _ _ h => h) (Or.inl ⟨by rfl, ?_⟩) ?_ ?_
 rotate_left
 {
 intro w'
 go_simp
 with_reducible rfl }
 rotate_left
 {
 simp only [Act.put, sT, s0, s1, i64_w, i32_w]
 rfl }
 refine one_ (i := 38) (N := some 78) #[true, true, true, true, true, true, true, true, true, true, true, true, true, true, true, true, true, true, true, true, true, true, true, true, true, true, true, true, true, true, true, true, true, true, true, true, true, true, true, false, false, false, false, false, false, false, false, false, false, false] rfl rfl (one_of HT_.out (by kernel_rfl)) (by decide) (fun K hK => ?_)
 refine Kd.R_lit_step Kd.string _ 9 ?hg (N := 78) ?hd (xs := ([(⟨#[]⟩ : ByteArray)] : List ByteArray)) (inner := [.string (⟨#[]⟩ : ByteArray)]) (ok := fun _ => True) (okp := fun _ => True) ?hr ?hp (fun _ hk => hk) trivial (Below.refl _ _) (Nat.le_refl _) (by simp) ?_; (case hd => rfl); (case hg => rfl); (case hr => first | (go_simp; done) | (go_simp; rfl)); (case hp => exact (Reps.one (show Kd.M Kd.string _ _ _ (⟨#[]⟩ : ByteArray) [.string (⟨#[]⟩ : ByteArray)] from rfl) (Reps.none _ _)))
 intro v213 w80 ho81 hb hg_ hnew_
 clear hg_ hnew_
 (first | rw [← Ny212.out] at ho81 | (simp only [Int.reduceToNat] at ho81; rw [← Ny212.out] at ho81))
 have n0_ := aS (Kd.R_elder' (rr HO154.out) (Kd.R_base ho81) hb)
 have n1_ := aS (Kd.R_below (rr HO157.out) hb)
 have n2_ := aS (Kd.V_elder' (vv HO163.out) (Kd.R_base ho81) hb)
 have n3_ := aS (Kd.V_elder' (vv HO166.out) (Kd.R_base ho81) hb)
 have n4_ := aS (Kd.R_below (rr HO171.out) hb)
 have n5_ := aS (Kd.R_elder' (rr HO174.out) (Kd.R_base ho81) hb)
 have n6_ := aS (Kd.R_below (rr HO177.out) hb)
 have n7_ := aS (Kd.V_elder' (vv HO185.out) (Kd.R_base ho81) hb)
 have n8_ := aS (Kd.V_elder' (vv HO188.out) (Kd.R_base ho81) hb)
 have n9_ := aS (Kd.R_elder' (rr HO194.out) (Kd.R_base ho81) hb)
 have n10_ := aS (Kd.R_below (rr HO197.out) hb)
 have n11_ := aS (Kd.R_elder' (rr HO200.out) (Kd.R_base ho81) hb)
 have n12_ := aS (Kd.R_below (rr HO203.out) hb)
 have n13_ := aS (Kd.R_elder' (rr HO206.out) (Kd.R_base ho81) hb)
 have n14_ := aS (Kd.R_below (rr HO209.out) hb)
 have n15_ := aS (Kd.R_lower (Kd.R_new' (Kd.R_new' (Kd.R_new' (Kd.R_new' (Kd.R_new' ho81 (Kd.R_lt (rr HO154.out))) (Kd.R_lt (rr HO174.out))) (Kd.R_lt (rr HO194.out))) (Kd.R_lt (rr HO200.out))) (Kd.R_lt (rr HO206.out))) bz)
 have n16_ := aS (kb BK159.out hb)
 have n17_ := aS (kb BK168.out hb)
 have n18_ := aS (kb BK178.out hb)
 have n19_ := aS (kb BK190.out hb)
 have n20_ := aS (below_step bb hb)
 clear HO154
 clear HO157
 clear HO163
 clear HO166
 clear HO171
 clear HO174
 clear HO177
 clear HO185
 clear HO188
 clear HO194
 clear HO197
 clear HO200
 clear HO203
 clear HO206
 clear HO209
 clear BK159
 clear BK168
 clear BK178
 clear BK190
 clear HB
 have HO154 := n0_
 have HO157 := n1_
 have HO163 := n2_
 have HO166 := n3_
 have HO171 := n4_
 have HO174 := n5_
 have HO177 := n6_
 have HO185 := n7_
 have HO188 := n8_
 have HO194 := n9_
 have HO197 := n10_
 have HO200 := n11_
 have HO203 := n12_
 have HO206 := n13_
 have HO209 := n14_
 have HO214 := n15_
 have BK159 := n16_
 have BK168 := n17_
 have BK178 := n18_
 have BK190 := n19_
 have HB := n20_
 clear n0_ n1_ n2_ n3_ n4_ n5_ n6_ n7_ n8_ n9_ n10_ n11_ n12_ n13_ n14_ n15_ n16_ n17_ n18_ n19_ n20_
 clear hb ho81
 obtain ⟨Ao82, co82, eo82⟩ := Kd.R_slice HO214.out
 (first | subst eo82 | (injection eo82 with f1_ f2_ f3_; have f4_ := f1_.symm; have f5_ := f3_.symm; clear f1_ f2_ f3_; subst f4_; subst f5_))
 refine hK.out _ _ ⟨(blk_cell BK168.out 0).trans rfl, (blk_cell BK168.out 1).trans rfl, (blk_cell BK159.out 0).trans rfl, (blk_cell BK159.out 1).trans rfl⟩ (fun hHeld => ?_)
 clear hK K
 refine norm_ (a' := ?_) ?_ ?_
 rotate_left
 {
 show Act.put _ (some 78) _ = _
 simp only [Act.put, sT, s0, s1, i64_w, i32_w]
 rfl }
 refine pure_ (i := 39) (N := some 79) (v := ?_) (a' := ?_) #[true, true, true, true, true, true, true, true, true, true, true, true, true, true, true, true, true, true, true, true, true, true, true, true, true, true, true, true, true, true, true, true, true, true, true, true, true, true, true, true, false, false, false, false, false, false, false, false, false, false] rfl rfl (any_of HT_.out (by kernel_rfl)) (fun _ _ _ h => h) (Or.inl ⟨by rfl, ?_⟩) ?_ ?_
 rotate_left
 {
 intro w'
 go_simp
 with_reducible rfl }
 rotate_left
 {
 simp only [Act.put, sT, s0, s1, i64_w, i32_w]
 rfl }
 refine one_ (i := 40) (N := some 80) #[true, true, true, true, true, true, true, true, true, true, true, true, true, true, true, true, true, true, true, true, true, true, true, true, true, true, true, true, true, true, true, true, true, true, true, true, true, true, true, true, true, false, false, false, false, false, false, false, false, false] rfl rfl (one_of HT_.out (by kernel_rfl)) (by decide) (fun K hK => ?_)
 refine goes_ Try.func12 (by kernel_rfl) rfl #[.agg #[.slice Ao82 y212.length co82, .slice none 0 0]] (by rfl) rfl rfl (by (try simp only [List.map_toArray, List.map_cons, List.map_nil]); first | done | rfl | (simp only [List.length_drop, List.length_take]; rfl)) ?_
 refine (dRight.calls _ _ y212 _ _ ([] : List (S46)) false _ ?side1 ?side2 ?side3 ?side4 A24.out).mono ?_
 (case side1 => repeat (first | exact (Kd.R_reads' HO214.out).2.2 | (with_reducible refine Kd.C_alloc ?_ _) | (with_reducible refine Kd.C_drewN ?_ _) | (with_reducible refine Kd.C_drew ?_)))
 (case side2 => exact (Kd.R_reads' HO214.out).2.1)
 (case side3 => exact Kd.C_nil _ _)
 (case side4 => exact Nat.le_refl _)
 rintro e w83 ⟨rfl, hb⟩
 refine ⟨_, rfl, ?_⟩
 have n0_ := aS (Kd.R_below (rr HO154.out) hb)
 have n1_ := aS (Kd.R_below (rr HO157.out) hb)
 have n2_ := aS (Kd.V_below (vv HO163.out) hb)
 have n3_ := aS (Kd.V_below (vv HO166.out) hb)
 have n4_ := aS (Kd.R_below (rr HO171.out) hb)
 have n5_ := aS (Kd.R_below (rr HO174.out) hb)
 have n6_ := aS (Kd.R_below (rr HO177.out) hb)
 have n7_ := aS (Kd.V_below (vv HO185.out) hb)
 have n8_ := aS (Kd.V_below (vv HO188.out) hb)
 have n9_ := aS (Kd.R_below (rr HO194.out) hb)
 have n10_ := aS (Kd.R_below (rr HO197.out) hb)
 have n11_ := aS (Kd.R_below (rr HO200.out) hb)
 have n12_ := aS (Kd.R_below (rr HO203.out) hb)
 have n13_ := aS (Kd.R_below (rr HO206.out) hb)
 have n14_ := aS (Kd.R_below (rr HO209.out) hb)
 have n15_ := aS (Kd.R_below (rr HO214.out) hb)
 have n16_ := aS (kb BK159.out hb)
 have n17_ := aS (kb BK168.out hb)
 have n18_ := aS (kb BK178.out hb)
 have n19_ := aS (kb BK190.out hb)
 have n20_ := aS (below_step bb hb)
 clear HO154
 clear HO157
 clear HO163
 clear HO166
 clear HO171
 clear HO174
 clear HO177
 clear HO185
 clear HO188
 clear HO194
 clear HO197
 clear HO200
 clear HO203
 clear HO206
 clear HO209
 clear HO214
 clear BK159
 clear BK168
 clear BK178
 clear BK190
 clear HB
 have HO154 := n0_
 have HO157 := n1_
 have HO163 := n2_
 have HO166 := n3_
 have HO171 := n4_
 have HO174 := n5_
 have HO177 := n6_
 have HO185 := n7_
 have HO188 := n8_
 have HO194 := n9_
 have HO197 := n10_
 have HO200 := n11_
 have HO203 := n12_
 have HO206 := n13_
 have HO209 := n14_
 have HO214 := n15_
 have BK159 := n16_
 have BK168 := n17_
 have BK178 := n18_
 have BK190 := n19_
 have HB := n20_
 clear n0_ n1_ n2_ n3_ n4_ n5_ n6_ n7_ n8_ n9_ n10_ n11_ n12_ n13_ n14_ n15_ n16_ n17_ n18_ n19_ n20_
 (try clear hb)
 (try clear hb2)
 (try clear hk)
 (try clear hi)
 refine hK.out _ _ ⟨(blk_cell BK168.out 0).trans rfl, (blk_cell BK168.out 1).trans rfl, (blk_cell BK159.out 0).trans rfl, (blk_cell BK159.out 1).trans rfl⟩ (fun hHeld => ?_)
 clear hK K
 refine norm_ (a' := ?_) ?_ ?_
 rotate_left
 {
 show Act.put _ (some 80) _ = _
 simp only [Act.put, sT, s0, s1, i64_w, i32_w]
 rfl }
 refine pure_ (i := 41) (N := some 81) (v := ?_) (a' := ?_) #[true, true, true, true, true, true, true, true, true, true, true, true, true, true, true, true, true, true, true, true, true, true, true, true, true, true, true, true, true, true, true, true, true, true, true, true, true, true, true, true, true, true, false, false, false, false, false, false, false, false] rfl rfl (any_of HT_.out (by kernel_rfl)) (fun _ _ _ h => h) (Or.inl ⟨by rfl, ?_⟩) ?_ ?_
 rotate_left
 {
 intro w'
 go_simp
 with_reducible rfl }
 rotate_left
 {
 simp only [Act.put, sT, s0, s1, i64_w, i32_w]
 rfl }
 refine pure_ (i := 42) (N := some 82) (v := ?_) (a' := ?_) #[true, true, true, true, true, true, true, true, true, true, true, true, true, true, true, true, true, true, true, true, true, true, true, true, true, true, true, true, true, true, true, true, true, true, true, true, true, true, true, true, true, true, true, false, false, false, false, false, false, false] rfl rfl (any_of HT_.out (by kernel_rfl)) (fun _ _ _ h => h) (Or.inl ⟨by rfl, ?_⟩) ?_ ?_
 rotate_left
 {
 intro w'
 go_simp
 with_reducible rfl }
 rotate_left
 {
 simp only [Act.put, sT, s0, s1, i64_w, i32_w]
 rfl }
 refine pure_ (i := 43) (N := some 83) (v := ?_) (a' := ?_) #[true, true, true, true, true, true, true, true, true, true, true, true, true, true, true, true, true, true, true, true, true, true, true, true, true, true, true, true, true, true, true, true, true, true, true, true, true, true, true, true, true, true, true, true, false, false, false, false, false, false] rfl rfl (any_of HT_.out (by kernel_rfl)) (fun _ _ _ h => h) (Or.inl ⟨by rfl, ?_⟩) ?_ ?_
 rotate_left
 {
 intro w'
 go_simp
 with_reducible rfl }
 rotate_left
 {
 simp only [Act.put, sT, s0, s1, i64_w, i32_w]
 rfl }
 refine take_ (i := 44) (N := some 84) (v := ?_) (a' := ?_) #[true, true, true, true, true, true, true, true, true, true, true, true, true, true, true, true, true, true, true, true, true, true, true, true, true, true, true, true, true, true, true, true, true, true, true, true, true, true, true, true, true, true, true, true, true, false, false, false, false, false] rfl rfl (take_ofW HT_.out HW_.out (by kernel_rfl)) (fun _ _ _ h => h) (Or.inl ⟨by rfl, ?_⟩) hHeld ?_ ?_
 rotate_left
 {
 rintro w' ⟨s0, s1, s2, s3⟩
 go_simp
 with_reducible rfl }
 rotate_left
 {
 simp only [Act.put, sT, s0, s1, i64_w, i32_w]
 rfl }
 refine take_ (i := 45) (N := some 85) (v := ?_) (a' := ?_) #[true, true, true, true, true, true, true, true, true, true, true, true, true, true, true, true, true, true, true, true, true, true, true, true, true, true, true, true, true, true, true, true, true, true, true, true, true, true, true, true, true, true, true, true, true, true, false, false, false, false] rfl rfl (take_ofW HT_.out HW_.out (by kernel_rfl)) (fun _ _ _ h => h) (Or.inl ⟨by rfl, ?_⟩) hHeld ?_ ?_
 rotate_left
 {
 rintro w' ⟨s0, s1, s2, s3⟩
 go_simp
 with_reducible rfl }
 rotate_left
 {
 simp only [Act.put, sT, s0, s1, i64_w, i32_w]
 rfl }
 refine one_ (i := 46) (N := some 86) #[true, true, true, true, true, true, true, true, true, true, true, true, true, true, true, true, true, true, true, true, true, true, true, true, true, true, true, true, true, true, true, true, true, true, true, true, true, true, true, true, true, true, true, true, true, true, true, false, false, false] rfl rfl (one_of HT_.out (by kernel_rfl)) (by decide) (fun K hK => ?_)
 refine goes_ Try.func13 (by kernel_rfl) rfl #[.agg #[.slice Ao38 t161.length co38, .slice Ao40 t164.length co40], .agg #[.slice Ao29 t152.length co29, .slice Ao31 t155.length co31]] (by rfl) rfl rfl (by (try simp only [List.map_toArray, List.map_cons, List.map_nil]); first | done | rfl | (simp only [List.length_drop, List.length_take]; rfl)) ?_
 with_reducible refine (disk_Same.calls k _ _ t161 _ _ t164 _ _ t152 _ _ t155 t216 _ ?side1 ?side2 ?side3 ?side4 ?side5 ?side6 ?side7 ?side8 A26.out).mono ?_
 (case side1 => repeat (first | exact (Kd.V_reads' HO163.out).2.2 | (with_reducible refine Kd.C_alloc ?_ _) | (with_reducible refine Kd.C_drewN ?_ _) | (with_reducible refine Kd.C_drew ?_)))
 (case side2 => exact (Kd.V_reads' HO163.out).2.1)
 (case side3 => repeat (first | exact (Kd.V_reads' HO166.out).2.2 | (with_reducible refine Kd.C_alloc ?_ _) | (with_reducible refine Kd.C_drewN ?_ _) | (with_reducible refine Kd.C_drew ?_)))
 (case side4 => exact (Kd.V_reads' HO166.out).2.1)
 (case side5 => repeat (first | exact (Kd.R_reads' HO154.out).2.2 | (with_reducible refine Kd.C_alloc ?_ _) | (with_reducible refine Kd.C_drewN ?_ _) | (with_reducible refine Kd.C_drew ?_)))
 (case side6 => exact (Kd.R_reads' HO154.out).2.1)
 (case side7 => repeat (first | exact (Kd.R_reads' HO157.out).2.2 | (with_reducible refine Kd.C_alloc ?_ _) | (with_reducible refine Kd.C_drewN ?_ _) | (with_reducible refine Kd.C_drew ?_)))
 (case side8 => exact (Kd.R_reads' HO157.out).2.1)
 rintro e w84 ⟨rfl, hb⟩
 refine ⟨_, rfl, ?_⟩
 have n0_ := aS (Kd.R_below (rr HO154.out) hb)
 have n1_ := aS (Kd.R_below (rr HO157.out) hb)
 have n2_ := aS (Kd.V_below (vv HO163.out) hb)
 have n3_ := aS (Kd.V_below (vv HO166.out) hb)
 have n4_ := aS (Kd.R_below (rr HO171.out) hb)
 have n5_ := aS (Kd.R_below (rr HO174.out) hb)
 have n6_ := aS (Kd.R_below (rr HO177.out) hb)
 have n7_ := aS (Kd.V_below (vv HO185.out) hb)
 have n8_ := aS (Kd.V_below (vv HO188.out) hb)
 have n9_ := aS (Kd.R_below (rr HO194.out) hb)
 have n10_ := aS (Kd.R_below (rr HO197.out) hb)
 have n11_ := aS (Kd.R_below (rr HO200.out) hb)
 have n12_ := aS (Kd.R_below (rr HO203.out) hb)
 have n13_ := aS (Kd.R_below (rr HO206.out) hb)
 have n14_ := aS (Kd.R_below (rr HO209.out) hb)
 have n15_ := aS (Kd.R_below (rr HO214.out) hb)
 have n16_ := aS (kb BK159.out hb)
 have n17_ := aS (kb BK168.out hb)
 have n18_ := aS (kb BK178.out hb)
 have n19_ := aS (kb BK190.out hb)
 have n20_ := aS (below_step bb hb)
 clear HO154
 clear HO157
 clear HO163
 clear HO166
 clear HO171
 clear HO174
 clear HO177
 clear HO185
 clear HO188
 clear HO194
 clear HO197
 clear HO200
 clear HO203
 clear HO206
 clear HO209
 clear HO214
 clear BK159
 clear BK168
 clear BK178
 clear BK190
 clear HB
 have HO154 := n0_
 have HO157 := n1_
 have HO163 := n2_
 have HO166 := n3_
 have HO171 := n4_
 have HO174 := n5_
 have HO177 := n6_
 have HO185 := n7_
 have HO188 := n8_
 have HO194 := n9_
 have HO197 := n10_
 have HO200 := n11_
 have HO203 := n12_
 have HO206 := n13_
 have HO209 := n14_
 have HO214 := n15_
 have BK159 := n16_
 have BK168 := n17_
 have BK178 := n18_
 have BK190 := n19_
 have HB := n20_
 clear n0_ n1_ n2_ n3_ n4_ n5_ n6_ n7_ n8_ n9_ n10_ n11_ n12_ n13_ n14_ n15_ n16_ n17_ n18_ n19_ n20_
 (try clear hb)
 (try clear hb2)
 (try clear hk)
 (try clear hi)
 refine hK.out _ _ ⟨(blk_cell BK168.out 0).trans rfl, (blk_cell BK168.out 1).trans rfl, (blk_cell BK159.out 0).trans rfl, (blk_cell BK159.out 1).trans rfl⟩ (fun hHeld => ?_)
 clear hK K
 refine norm_ (a' := ?_) ?_ ?_
 rotate_left
 {
 show Act.put _ (some 86) _ = _
 simp only [Act.put, sT, s0, s1, i64_w, i32_w]
 rfl }
 refine pure_ (i := 47) (N := some 87) (v := ?_) (a' := ?_) #[true, true, true, true, true, true, true, true, true, true, true, true, true, true, true, true, true, true, true, true, true, true, true, true, true, true, true, true, true, true, true, true, true, true, true, true, true, true, true, true, true, true, true, true, true, true, true, true, false, false] rfl rfl (any_of HT_.out (by kernel_rfl)) (fun _ _ _ h => h) (Or.inl ⟨by rfl, ?_⟩) ?_ ?_
 rotate_left
 {
 intro w'
 go_simp
 with_reducible rfl }
 rotate_left
 {
 simp only [Act.put, sT, s0, s1, i64_w, i32_w]
 rfl }
 refine pure_ (i := 48) (N := some 88) (v := ?_) (a' := ?_) #[true, true, true, true, true, true, true, true, true, true, true, true, true, true, true, true, true, true, true, true, true, true, true, true, true, true, true, true, true, true, true, true, true, true, true, true, true, true, true, true, true, true, true, true, true, true, true, true, true, false] rfl rfl (any_of HT_.out (by kernel_rfl)) (fun _ _ _ h => h) (Or.inl ⟨by rfl, ?_⟩) ?_ ?_
 rotate_left
 {
 intro w'
 go_simp
 with_reducible rfl }
 rotate_left
 {
 simp only [Act.put, sT, s0, s1, i64_w, i32_w]
 rfl }
 refine pure_ (i := 49) (N := some 0) (v := ?_) (a' := ?_) #[true, true, true, true, true, true, true, true, true, true, true, true, true, true, true, true, true, true, true, true, true, true, true, true, true, true, true, true, true, true, true, true, true, true, true, true, true, true, true, true, true, true, true, true, true, true, true, true, true, true] rfl rfl (any_of HT_.out (by kernel_rfl)) (fun _ _ _ h => h) (Or.inl ⟨by rfl, ?_⟩) ?_ ?_
 rotate_left
 {
 intro w'
 go_simp
 with_reducible rfl }
 rotate_left
 {
 simp only [Act.put, sT, s0, s1, i64_w, i32_w]
 rfl }
 refine done_ (done_of HT_.out (by kernel_rfl)) ?_
 try go_wp2
 go_ret
 exact ⟨by first | rfl | (simp [errW_none, errW_some] <;> rfl) | (simp [*, errW_none, errW_some] <;> rfl), by repeat (first | (with_reducible first | exact HB.out | apply below_alloc | apply pw_below_drewN | apply below_drew1 | refine below_set ?_ GE159.out | refine below_set ?_ GE168.out | refine below_set ?_ GE178.out | refine below_set ?_ GE190.out) | exact HB.out)⟩ } }
 {
 replace c23 := Bool.eq_false_iff.mpr c23
 subst c23
 have H1 : (none) = some r := by rw [if_neg (show ¬ (false = true) by decide)] at H; exact H
 clear H
 have H := H1
 clear H1
 exact absurd H (by simp) } }
 {
 replace c21 := Bool.eq_false_iff.mpr c21
 subst c21
 have H1 : (none) = some r := by rw [if_neg (show ¬ (false = true) by decide)] at H; exact H
 clear H
 have H := H1
 clear H1
 exact absurd H (by simp) } }
 {
 rw [if_neg c16] at H
 exact absurd H (by simp) } }
 {
 rw [if_neg c15] at H
 exact absurd H (by simp) } }
 {
 rw [if_neg c14] at H
 exact absurd H (by simp) } }
 {
 rw [if_neg c12] at H
 exact absurd H (by simp) } }
 {
 rw [if_neg c11] at H
 exact absurd H (by simp) } }
 {
 rw [if_neg c10] at H
 exact absurd H (by simp) } }
 {
 rw [if_neg c9] at H
 exact absurd H (by simp) } }
 {
 rw [if_neg c8] at H
 exact absurd H (by simp) }

end Go.Proofs.Ytdaonhgcejjlhaa.P
