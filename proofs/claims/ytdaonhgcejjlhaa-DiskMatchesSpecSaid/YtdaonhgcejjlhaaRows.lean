/-
  No cell of these rows narrows 'for every input' (looked for: loops, veiled, ifaces, maps, wideKeys, modest, calm, conditions, laid).
  DERIVED. THE GIVEN ROWS OF THIS SEAT. 4 by the template 'for every input the law returns true; each argument reads behind the call as it read before'; 0 by the template 'total and deterministic' (their statements: YtdaonhgcejjlhaaTotals.lean).
  GIVEN WITH THE SEED: the statements are not yours to turn. If you find one false, say at which input.
  Laid BY PROGRAM, IN A SANDBOX (cutbox-rows.mjs): the forced cells as the released guide's own fill.sh prints them over the translation 722af4f7a9e3863c… (all of the seat's roots in one cut). By AI agents, Wed Nov 11 2026. No macro, syntax, notation, axiom, sorry.
-/
import Derived.Test.YtdaonhgcejjlhaaChecked
import GoSem.Claim
import GoSem.ClaimJoined
import GoSem.ClaimMapViews
import Derived.JoinedTies
import Derived.KernelRfl
namespace Go.Proofs.Ytdaonhgcejjlhaa
/- THE CELL 'sum', in the pinned program and in every row, IS THE sha256 OF THE DUMP (.gsa) THAT YtdaonhgcejjlhaaProg.lean LOADS. Nothing in Lean hashes anything: it is a label: what it is worth is what the hold of that sum in a sandbox is worth. -/
noncomputable def Try.pinned : Pinned := { name := "ytdaonhgcejjlhaa", sum := "722af4f7a9e3863c1b71a28dc29d67feea206fa0b673af516277a9324e986420", checked := Try.checked }
namespace Rows
def none {H : Type} : Left H := { results := [], args := [] }

/-- 'hallmootlaw22.DiskMatchesSpec': WHATEVER THE INPUT: true; the input reads as it did. -/
def diskMatchesSpecSpec : ChangeSpec := { name := "diskMatchesSpec", fn := fun _ => fun
  | [d] => { results := [.lit (.bool true)], args := [d] }
  | _ => none }
def diskMatchesSpecRow : OpenClaim := { program := "ytdaonhgcejjlhaa", sum := "722af4f7a9e3863c1b71a28dc29d67feea206fa0b673af516277a9324e986420", func := "hallmoot/hallmootlaw22.DiskMatchesSpec", spec := "diskMatchesSpec", unfollowed := true, recurses := true, apart := false }
def DiskMatchesSpecSaid : Prop := diskMatchesSpecRow.holds Try.pinned (OpenSpec.ofChange diskMatchesSpecSpec)

/-- ITS FALSE NEIGHBOUR: 'it returns false'. Refute it at one input. -/
def diskMatchesSpecWrong : ChangeSpec := { name := "diskMatchesSpec", fn := fun _ => fun
  | [d] => { results := [.lit (.bool false)], args := [d] }
  | _ => none }
def DiskMatchesSpecWrongFalsely : Prop := diskMatchesSpecRow.holds Try.pinned (OpenSpec.ofChange diskMatchesSpecWrong)

/-- 'hallmootlaw22.DiskReadsLastWrite': WHATEVER THE INPUT: true; the input reads as it did. -/
def diskReadsLastWriteSpec : ChangeSpec := { name := "diskReadsLastWrite", fn := fun _ => fun
  | [d1, d2] => { results := [.lit (.bool true)], args := [d1, d2] }
  | _ => none }
def diskReadsLastWriteRow : OpenClaim := { program := "ytdaonhgcejjlhaa", sum := "722af4f7a9e3863c1b71a28dc29d67feea206fa0b673af516277a9324e986420", func := "hallmoot/hallmootlaw22.DiskReadsLastWrite", spec := "diskReadsLastWrite", unfollowed := true, recurses := true, apart := false }
def DiskReadsLastWriteSaid : Prop := diskReadsLastWriteRow.holds Try.pinned (OpenSpec.ofChange diskReadsLastWriteSpec)

/-- ITS FALSE NEIGHBOUR: 'it returns false'. Refute it at one input. -/
def diskReadsLastWriteWrong : ChangeSpec := { name := "diskReadsLastWrite", fn := fun _ => fun
  | [d1, d2] => { results := [.lit (.bool false)], args := [d1, d2] }
  | _ => none }
def DiskReadsLastWriteWrongFalsely : Prop := diskReadsLastWriteRow.holds Try.pinned (OpenSpec.ofChange diskReadsLastWriteWrong)

/-- 'hallmootlaw22.DiskKeepsSynced': WHATEVER THE INPUT: true; the input reads as it did. -/
def diskKeepsSyncedSpec : ChangeSpec := { name := "diskKeepsSynced", fn := fun _ => fun
  | [d] => { results := [.lit (.bool true)], args := [d] }
  | _ => none }
def diskKeepsSyncedRow : OpenClaim := { program := "ytdaonhgcejjlhaa", sum := "722af4f7a9e3863c1b71a28dc29d67feea206fa0b673af516277a9324e986420", func := "hallmoot/hallmootlaw22.DiskKeepsSynced", spec := "diskKeepsSynced", unfollowed := true, recurses := true, apart := false }
def DiskKeepsSyncedSaid : Prop := diskKeepsSyncedRow.holds Try.pinned (OpenSpec.ofChange diskKeepsSyncedSpec)

/-- ITS FALSE NEIGHBOUR: 'it returns false'. Refute it at one input. -/
def diskKeepsSyncedWrong : ChangeSpec := { name := "diskKeepsSynced", fn := fun _ => fun
  | [d] => { results := [.lit (.bool false)], args := [d] }
  | _ => none }
def DiskKeepsSyncedWrongFalsely : Prop := diskKeepsSyncedRow.holds Try.pinned (OpenSpec.ofChange diskKeepsSyncedWrong)

/-- 'hallmootlaw22.DiskTearsBytes': WHATEVER THE INPUT: true; the input reads as it did. -/
def diskTearsBytesSpec : ChangeSpec := { name := "diskTearsBytes", fn := fun _ => fun
  | [d1, d2, d3] => { results := [.lit (.bool true)], args := [d1, d2, d3] }
  | _ => none }
def diskTearsBytesRow : OpenClaim := { program := "ytdaonhgcejjlhaa", sum := "722af4f7a9e3863c1b71a28dc29d67feea206fa0b673af516277a9324e986420", func := "hallmoot/hallmootlaw22.DiskTearsBytes", spec := "diskTearsBytes", unfollowed := true, recurses := true, apart := false }
def DiskTearsBytesSaid : Prop := diskTearsBytesRow.holds Try.pinned (OpenSpec.ofChange diskTearsBytesSpec)

/-- ITS FALSE NEIGHBOUR: 'it returns false'. Refute it at one input. -/
def diskTearsBytesWrong : ChangeSpec := { name := "diskTearsBytes", fn := fun _ => fun
  | [d1, d2, d3] => { results := [.lit (.bool false)], args := [d1, d2, d3] }
  | _ => none }
def DiskTearsBytesWrongFalsely : Prop := diskTearsBytesRow.holds Try.pinned (OpenSpec.ofChange diskTearsBytesWrong)

/- THE SECOND FORM. 'bulk': how many values and letters a reading holds, each counted each time it is reached (what is shared counts as often as it is met; a slice's spare places count too). A statement '..UptoSaid' is the law's where the arguments, and the package variables that the reading takes, are together of bulk at most 1048576: NARROWER than '..Said'. Prove '..Said' where nothing that the law and all that it calls make is longer than what came in: it says more and counts as full. Else prove '..UptoSaid'. A law counts once. -/
mutual
def uptoBulk {H : Type} : DataW H → Nat
  | .lit (.string bytes) => bytes.length + 1
  | .lit _ => 1
  | .nil => 1
  | .ptr d => uptoBulk d + 1
  | .slice elems spare => uptoBulkAll elems + uptoBulkAll spare + 1
  | .agg parts => uptoBulkAll parts + 1
  | .iface _ d => uptoBulk d + 1
  | .map entries => uptoBulkEntries entries + 1
  | .held _ => 1
def uptoBulkAll {H : Type} : List (DataW H) → Nat
  | [] => 0
  | d :: r => uptoBulk d + uptoBulkAll r
def uptoBulkEntries {H : Type} : List (Lit × DataW H) → Nat
  | [] => 0
  | x :: r => uptoBulkEntry x + uptoBulkEntries r
def uptoBulkEntry {H : Type} : Lit × DataW H → Nat
  | (.string bytes, d) => bytes.length + uptoBulk d + 1
  | (_, d) => uptoBulk d + 1
 end
def uptoSmall : (H : Type) → List (DataW H) → Bool := fun _ ds => decide (uptoBulkAll ds ≤ 1048576)
def OpenSpec.upto (s : _root_.Go.ChangeSpec) : _root_.Go.OpenSpec := { _root_.Go.OpenSpec.ofChange s with cond := some uptoSmall }

/-- 'hallmootlaw22.DiskMatchesSpec', WHERE WHAT IT READS IS OF BULK AT MOST 1048576: true; the input reads as it did. -/
def diskMatchesSpecUptoRow : OpenClaim := { program := "ytdaonhgcejjlhaa", sum := "722af4f7a9e3863c1b71a28dc29d67feea206fa0b673af516277a9324e986420", func := "hallmoot/hallmootlaw22.DiskMatchesSpec", spec := "diskMatchesSpec", unfollowed := true, recurses := true, apart := false, narrowed := true }
def DiskMatchesSpecUptoSaid : Prop := diskMatchesSpecUptoRow.holds Try.pinned (OpenSpec.upto diskMatchesSpecSpec)

/-- 'hallmootlaw22.DiskReadsLastWrite', WHERE WHAT IT READS IS OF BULK AT MOST 1048576: true; the input reads as it did. -/
def diskReadsLastWriteUptoRow : OpenClaim := { program := "ytdaonhgcejjlhaa", sum := "722af4f7a9e3863c1b71a28dc29d67feea206fa0b673af516277a9324e986420", func := "hallmoot/hallmootlaw22.DiskReadsLastWrite", spec := "diskReadsLastWrite", unfollowed := true, recurses := true, apart := false, narrowed := true }
def DiskReadsLastWriteUptoSaid : Prop := diskReadsLastWriteUptoRow.holds Try.pinned (OpenSpec.upto diskReadsLastWriteSpec)

/-- 'hallmootlaw22.DiskKeepsSynced', WHERE WHAT IT READS IS OF BULK AT MOST 1048576: true; the input reads as it did. -/
def diskKeepsSyncedUptoRow : OpenClaim := { program := "ytdaonhgcejjlhaa", sum := "722af4f7a9e3863c1b71a28dc29d67feea206fa0b673af516277a9324e986420", func := "hallmoot/hallmootlaw22.DiskKeepsSynced", spec := "diskKeepsSynced", unfollowed := true, recurses := true, apart := false, narrowed := true }
def DiskKeepsSyncedUptoSaid : Prop := diskKeepsSyncedUptoRow.holds Try.pinned (OpenSpec.upto diskKeepsSyncedSpec)

/-- 'hallmootlaw22.DiskTearsBytes', WHERE WHAT IT READS IS OF BULK AT MOST 1048576: true; the input reads as it did. -/
def diskTearsBytesUptoRow : OpenClaim := { program := "ytdaonhgcejjlhaa", sum := "722af4f7a9e3863c1b71a28dc29d67feea206fa0b673af516277a9324e986420", func := "hallmoot/hallmootlaw22.DiskTearsBytes", spec := "diskTearsBytes", unfollowed := true, recurses := true, apart := false, narrowed := true }
def DiskTearsBytesUptoSaid : Prop := diskTearsBytesUptoRow.holds Try.pinned (OpenSpec.upto diskTearsBytesSpec)

end Rows
end Go.Proofs.Ytdaonhgcejjlhaa
