/-
  NARROWER THAN 'FOR EVERY INPUT', by the rows' own cells (each row's printed sentence says how): NestDrop: loops · NestMatches: loops · NestMerges: loops · NestEnd: loops · NestReads: loops.
  DERIVED. THE GIVEN ROWS OF THIS SEAT. 7 by the template 'for every input the law returns true; each argument reads behind the call as it read before'; 0 by the template 'total and deterministic' (their statements: YtfojpobblebigaaTotals.lean).
  GIVEN WITH THE SEED: the statements are not yours to turn. If you find one false, say at which input.
  Laid BY PROGRAM, IN A SANDBOX (cutbox-rows.mjs): the forced cells as the released guide's own fill.sh prints them over the translation 5ffbdc49803f88dd… (all of the seat's roots in one cut). By AI agents, Wed Nov 11 2026. No macro, syntax, notation, axiom, sorry.
-/
import Derived.Test.YtfojpobblebigaaChecked
import GoSem.Claim
import GoSem.ClaimJoined
import GoSem.ClaimMapViews
import Derived.JoinedTies
import Derived.KernelRfl
namespace Go.Proofs.Ytfojpobblebigaa
/- THE CELL 'sum', in the pinned program and in every row, IS THE sha256 OF THE DUMP (.gsa) THAT YtfojpobblebigaaProg.lean LOADS. Nothing in Lean hashes anything: it is a label: what it is worth is what the hold of that sum in a sandbox is worth. -/
noncomputable def Try.pinned : Pinned := { name := "ytfojpobblebigaa", sum := "5ffbdc49803f88dd886f6b4ddb4e78634cadc48ebd7a37ab8ed59bfbb0e12e28", checked := Try.checked }
namespace Rows
def none {H : Type} : Left H := { results := [], args := [] }

/-- 'hallmootlaw13.NestDrop': WHATEVER THE INPUT: true; the input reads as it did. -/
def nestDropSpec : ChangeSpec := { name := "nestDrop", fn := fun _ => fun
  | [d1, d2, d3, d4] => { results := [.lit (.bool true)], args := [d1, d2, d3, d4] }
  | _ => none }
def nestDropRow : OpenClaim := { program := "ytfojpobblebigaa", sum := "5ffbdc49803f88dd886f6b4ddb4e78634cadc48ebd7a37ab8ed59bfbb0e12e28", func := "hallmoot/hallmootlaw13.NestDrop", spec := "nestDrop", inPlace := ["slices.overlaps[hallmoot/api.Write]"], unfollowed := true, recurses := true, loops := true, apart := false }
def NestDropSaid : Prop := nestDropRow.holds Try.pinned (OpenSpec.ofChange nestDropSpec)

/-- ITS FALSE NEIGHBOUR: 'it returns false'. Refute it at one input. -/
def nestDropWrong : ChangeSpec := { name := "nestDrop", fn := fun _ => fun
  | [d1, d2, d3, d4] => { results := [.lit (.bool false)], args := [d1, d2, d3, d4] }
  | _ => none }
def NestDropWrongFalsely : Prop := nestDropRow.holds Try.pinned (OpenSpec.ofChange nestDropWrong)

/-- 'hallmootlaw13.NestModel': WHATEVER THE INPUT: true; the input reads as it did. -/
def nestModelSpec : ChangeSpec := { name := "nestModel", fn := fun _ => fun
  | [d1, d2] => { results := [.lit (.bool true)], args := [d1, d2] }
  | _ => none }
def nestModelRow : OpenClaim := { program := "ytfojpobblebigaa", sum := "5ffbdc49803f88dd886f6b4ddb4e78634cadc48ebd7a37ab8ed59bfbb0e12e28", func := "hallmoot/hallmootlaw13.NestModel", spec := "nestModel", inPlace := ["slices.overlaps[hallmoot/api.Write]"], unfollowed := true, recurses := true, apart := false }
def NestModelSaid : Prop := nestModelRow.holds Try.pinned (OpenSpec.ofChange nestModelSpec)

/-- ITS FALSE NEIGHBOUR: 'it returns false'. Refute it at one input. -/
def nestModelWrong : ChangeSpec := { name := "nestModel", fn := fun _ => fun
  | [d1, d2] => { results := [.lit (.bool false)], args := [d1, d2] }
  | _ => none }
def NestModelWrongFalsely : Prop := nestModelRow.holds Try.pinned (OpenSpec.ofChange nestModelWrong)

/-- 'hallmootlaw13.NestMatches': WHATEVER THE INPUT: true; the input reads as it did. -/
def nestMatchesSpec : ChangeSpec := { name := "nestMatches", fn := fun _ => fun
  | [d1, d2, d3, d4, d5] => { results := [.lit (.bool true)], args := [d1, d2, d3, d4, d5] }
  | _ => none }
def nestMatchesRow : OpenClaim := { program := "ytfojpobblebigaa", sum := "5ffbdc49803f88dd886f6b4ddb4e78634cadc48ebd7a37ab8ed59bfbb0e12e28", func := "hallmoot/hallmootlaw13.NestMatches", spec := "nestMatches", inPlace := ["slices.overlaps[hallmoot/api.Write]"], unfollowed := true, recurses := true, loops := true, apart := false }
def NestMatchesSaid : Prop := nestMatchesRow.holds Try.pinned (OpenSpec.ofChange nestMatchesSpec)

/-- ITS FALSE NEIGHBOUR: 'it returns false'. Refute it at one input. -/
def nestMatchesWrong : ChangeSpec := { name := "nestMatches", fn := fun _ => fun
  | [d1, d2, d3, d4, d5] => { results := [.lit (.bool false)], args := [d1, d2, d3, d4, d5] }
  | _ => none }
def NestMatchesWrongFalsely : Prop := nestMatchesRow.holds Try.pinned (OpenSpec.ofChange nestMatchesWrong)

/-- 'hallmootlaw13.NestUndo': WHATEVER THE INPUT: true; the input reads as it did. -/
def nestUndoSpec : ChangeSpec := { name := "nestUndo", fn := fun _ => fun
  | [d] => { results := [.lit (.bool true)], args := [d] }
  | _ => none }
def nestUndoRow : OpenClaim := { program := "ytfojpobblebigaa", sum := "5ffbdc49803f88dd886f6b4ddb4e78634cadc48ebd7a37ab8ed59bfbb0e12e28", func := "hallmoot/hallmootlaw13.NestUndo", spec := "nestUndo", inPlace := ["slices.overlaps[hallmoot/api.Write]"], unfollowed := true, recurses := true, apart := false }
def NestUndoSaid : Prop := nestUndoRow.holds Try.pinned (OpenSpec.ofChange nestUndoSpec)

/-- ITS FALSE NEIGHBOUR: 'it returns false'. Refute it at one input. -/
def nestUndoWrong : ChangeSpec := { name := "nestUndo", fn := fun _ => fun
  | [d] => { results := [.lit (.bool false)], args := [d] }
  | _ => none }
def NestUndoWrongFalsely : Prop := nestUndoRow.holds Try.pinned (OpenSpec.ofChange nestUndoWrong)

/-- 'hallmootlaw13.NestMerges': WHATEVER THE INPUT: true; the input reads as it did. -/
def nestMergesSpec : ChangeSpec := { name := "nestMerges", fn := fun _ => fun
  | [d] => { results := [.lit (.bool true)], args := [d] }
  | _ => none }
def nestMergesRow : OpenClaim := { program := "ytfojpobblebigaa", sum := "5ffbdc49803f88dd886f6b4ddb4e78634cadc48ebd7a37ab8ed59bfbb0e12e28", func := "hallmoot/hallmootlaw13.NestMerges", spec := "nestMerges", inPlace := ["slices.overlaps[hallmoot/api.Write]"], unfollowed := true, recurses := true, loops := true, apart := false }
def NestMergesSaid : Prop := nestMergesRow.holds Try.pinned (OpenSpec.ofChange nestMergesSpec)

/-- ITS FALSE NEIGHBOUR: 'it returns false'. Refute it at one input. -/
def nestMergesWrong : ChangeSpec := { name := "nestMerges", fn := fun _ => fun
  | [d] => { results := [.lit (.bool false)], args := [d] }
  | _ => none }
def NestMergesWrongFalsely : Prop := nestMergesRow.holds Try.pinned (OpenSpec.ofChange nestMergesWrong)

/-- 'hallmootlaw13.NestEnd': WHATEVER THE INPUT: true; the input reads as it did. -/
def nestEndSpec : ChangeSpec := { name := "nestEnd", fn := fun _ => fun
  | [d1, d2] => { results := [.lit (.bool true)], args := [d1, d2] }
  | _ => none }
def nestEndRow : OpenClaim := { program := "ytfojpobblebigaa", sum := "5ffbdc49803f88dd886f6b4ddb4e78634cadc48ebd7a37ab8ed59bfbb0e12e28", func := "hallmoot/hallmootlaw13.NestEnd", spec := "nestEnd", inPlace := ["slices.overlaps[hallmoot/api.Write]"], unfollowed := true, recurses := true, loops := true, apart := false }
def NestEndSaid : Prop := nestEndRow.holds Try.pinned (OpenSpec.ofChange nestEndSpec)

/-- ITS FALSE NEIGHBOUR: 'it returns false'. Refute it at one input. -/
def nestEndWrong : ChangeSpec := { name := "nestEnd", fn := fun _ => fun
  | [d1, d2] => { results := [.lit (.bool false)], args := [d1, d2] }
  | _ => none }
def NestEndWrongFalsely : Prop := nestEndRow.holds Try.pinned (OpenSpec.ofChange nestEndWrong)

/-- 'hallmootlaw13.NestReads': WHATEVER THE INPUT: true; the input reads as it did. -/
def nestReadsSpec : ChangeSpec := { name := "nestReads", fn := fun _ => fun
  | [d1, d2] => { results := [.lit (.bool true)], args := [d1, d2] }
  | _ => none }
def nestReadsRow : OpenClaim := { program := "ytfojpobblebigaa", sum := "5ffbdc49803f88dd886f6b4ddb4e78634cadc48ebd7a37ab8ed59bfbb0e12e28", func := "hallmoot/hallmootlaw13.NestReads", spec := "nestReads", inPlace := ["slices.overlaps[hallmoot/api.Write]"], unfollowed := true, recurses := true, loops := true, apart := false }
def NestReadsSaid : Prop := nestReadsRow.holds Try.pinned (OpenSpec.ofChange nestReadsSpec)

/-- ITS FALSE NEIGHBOUR: 'it returns false'. Refute it at one input. -/
def nestReadsWrong : ChangeSpec := { name := "nestReads", fn := fun _ => fun
  | [d1, d2] => { results := [.lit (.bool false)], args := [d1, d2] }
  | _ => none }
def NestReadsWrongFalsely : Prop := nestReadsRow.holds Try.pinned (OpenSpec.ofChange nestReadsWrong)

/- THE SECOND FORM. 'bulk': how many values and letters a reading holds, each counted each time it is reached (what is shared counts as often as it is met; a slice's spare places count too). A statement '..UptoSaid' is the law's where the arguments, and the package variables that the reading takes, are together of bulk at most 1048576: NARROWER than '..Said'. Prove '..Said' where nothing that the law and all that it calls make is longer than what came in: it says more and counts as full. Else prove '..UptoSaid'. A law counts once. -/
mutual
def uptoBulk {H : Type} : DataW H → Nat
  | .lit (.string bytes) => bytes.length + 1
  | .lit _ => 1
  | .nil => 1
  | .ptr d => uptoBulk d + 1
  | .slice elems spare => uptoBulkAll elems + uptoBulkAll spare + 1
  | .agg parts => uptoBulkAll parts + 1
  | .iface _ d => uptoBulk d + 1
  | .map entries => uptoBulkEntries entries + 1
  | .held _ => 1
def uptoBulkAll {H : Type} : List (DataW H) → Nat
  | [] => 0
  | d :: r => uptoBulk d + uptoBulkAll r
def uptoBulkEntries {H : Type} : List (Lit × DataW H) → Nat
  | [] => 0
  | x :: r => uptoBulkEntry x + uptoBulkEntries r
def uptoBulkEntry {H : Type} : Lit × DataW H → Nat
  | (.string bytes, d) => bytes.length + uptoBulk d + 1
  | (_, d) => uptoBulk d + 1
 end
def uptoSmall : (H : Type) → List (DataW H) → Bool := fun _ ds => decide (uptoBulkAll ds ≤ 1048576)
def OpenSpec.upto (s : _root_.Go.ChangeSpec) : _root_.Go.OpenSpec := { _root_.Go.OpenSpec.ofChange s with cond := some uptoSmall }

/-- 'hallmootlaw13.NestDrop', WHERE WHAT IT READS IS OF BULK AT MOST 1048576: true; the input reads as it did. -/
def nestDropUptoRow : OpenClaim := { program := "ytfojpobblebigaa", sum := "5ffbdc49803f88dd886f6b4ddb4e78634cadc48ebd7a37ab8ed59bfbb0e12e28", func := "hallmoot/hallmootlaw13.NestDrop", spec := "nestDrop", inPlace := ["slices.overlaps[hallmoot/api.Write]"], unfollowed := true, recurses := true, loops := true, apart := false, narrowed := true }
def NestDropUptoSaid : Prop := nestDropUptoRow.holds Try.pinned (OpenSpec.upto nestDropSpec)

/-- 'hallmootlaw13.NestModel', WHERE WHAT IT READS IS OF BULK AT MOST 1048576: true; the input reads as it did. -/
def nestModelUptoRow : OpenClaim := { program := "ytfojpobblebigaa", sum := "5ffbdc49803f88dd886f6b4ddb4e78634cadc48ebd7a37ab8ed59bfbb0e12e28", func := "hallmoot/hallmootlaw13.NestModel", spec := "nestModel", inPlace := ["slices.overlaps[hallmoot/api.Write]"], unfollowed := true, recurses := true, apart := false, narrowed := true }
def NestModelUptoSaid : Prop := nestModelUptoRow.holds Try.pinned (OpenSpec.upto nestModelSpec)

/-- 'hallmootlaw13.NestMatches', WHERE WHAT IT READS IS OF BULK AT MOST 1048576: true; the input reads as it did. -/
def nestMatchesUptoRow : OpenClaim := { program := "ytfojpobblebigaa", sum := "5ffbdc49803f88dd886f6b4ddb4e78634cadc48ebd7a37ab8ed59bfbb0e12e28", func := "hallmoot/hallmootlaw13.NestMatches", spec := "nestMatches", inPlace := ["slices.overlaps[hallmoot/api.Write]"], unfollowed := true, recurses := true, loops := true, apart := false, narrowed := true }
def NestMatchesUptoSaid : Prop := nestMatchesUptoRow.holds Try.pinned (OpenSpec.upto nestMatchesSpec)

/-- 'hallmootlaw13.NestUndo', WHERE WHAT IT READS IS OF BULK AT MOST 1048576: true; the input reads as it did. -/
def nestUndoUptoRow : OpenClaim := { program := "ytfojpobblebigaa", sum := "5ffbdc49803f88dd886f6b4ddb4e78634cadc48ebd7a37ab8ed59bfbb0e12e28", func := "hallmoot/hallmootlaw13.NestUndo", spec := "nestUndo", inPlace := ["slices.overlaps[hallmoot/api.Write]"], unfollowed := true, recurses := true, apart := false, narrowed := true }
def NestUndoUptoSaid : Prop := nestUndoUptoRow.holds Try.pinned (OpenSpec.upto nestUndoSpec)

/-- 'hallmootlaw13.NestMerges', WHERE WHAT IT READS IS OF BULK AT MOST 1048576: true; the input reads as it did. -/
def nestMergesUptoRow : OpenClaim := { program := "ytfojpobblebigaa", sum := "5ffbdc49803f88dd886f6b4ddb4e78634cadc48ebd7a37ab8ed59bfbb0e12e28", func := "hallmoot/hallmootlaw13.NestMerges", spec := "nestMerges", inPlace := ["slices.overlaps[hallmoot/api.Write]"], unfollowed := true, recurses := true, loops := true, apart := false, narrowed := true }
def NestMergesUptoSaid : Prop := nestMergesUptoRow.holds Try.pinned (OpenSpec.upto nestMergesSpec)

/-- 'hallmootlaw13.NestEnd', WHERE WHAT IT READS IS OF BULK AT MOST 1048576: true; the input reads as it did. -/
def nestEndUptoRow : OpenClaim := { program := "ytfojpobblebigaa", sum := "5ffbdc49803f88dd886f6b4ddb4e78634cadc48ebd7a37ab8ed59bfbb0e12e28", func := "hallmoot/hallmootlaw13.NestEnd", spec := "nestEnd", inPlace := ["slices.overlaps[hallmoot/api.Write]"], unfollowed := true, recurses := true, loops := true, apart := false, narrowed := true }
def NestEndUptoSaid : Prop := nestEndUptoRow.holds Try.pinned (OpenSpec.upto nestEndSpec)

/-- 'hallmootlaw13.NestReads', WHERE WHAT IT READS IS OF BULK AT MOST 1048576: true; the input reads as it did. -/
def nestReadsUptoRow : OpenClaim := { program := "ytfojpobblebigaa", sum := "5ffbdc49803f88dd886f6b4ddb4e78634cadc48ebd7a37ab8ed59bfbb0e12e28", func := "hallmoot/hallmootlaw13.NestReads", spec := "nestReads", inPlace := ["slices.overlaps[hallmoot/api.Write]"], unfollowed := true, recurses := true, loops := true, apart := false, narrowed := true }
def NestReadsUptoSaid : Prop := nestReadsUptoRow.holds Try.pinned (OpenSpec.upto nestReadsSpec)

end Rows
end Go.Proofs.Ytfojpobblebigaa
