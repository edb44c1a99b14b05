/-
  No cell of these rows narrows 'for every input' (looked for: loops, veiled, ifaces, maps, wideKeys, modest, calm, conditions, laid).
  DERIVED. THE GIVEN ROWS OF THIS SEAT. 4 by the template 'for every input the law returns true; each argument reads behind the call as it read before'; 0 by the template 'total and deterministic' (their statements: YtncmklpnppenmaaTotals.lean).
  GIVEN WITH THE SEED: the statements are not yours to turn. If you find one false, say at which input.
  Laid BY PROGRAM, IN A SANDBOX (cutbox-rows.mjs): the forced cells as the released guide's own fill.sh prints them over the translation ac92665fdb730e88… (all of the seat's roots in one cut). By AI agents, Wed Nov 11 2026. No macro, syntax, notation, axiom, sorry.
-/
import Derived.Test.YtncmklpnppenmaaChecked
import GoSem.Claim
import GoSem.ClaimJoined
import GoSem.ClaimMapViews
import Derived.JoinedTies
import Derived.KernelRfl
namespace Go.Proofs.Ytncmklpnppenmaa
/- THE CELL 'sum', in the pinned program and in every row, IS THE sha256 OF THE DUMP (.gsa) THAT YtncmklpnppenmaaProg.lean LOADS. Nothing in Lean hashes anything: it is a label: what it is worth is what the hold of that sum in a sandbox is worth. -/
noncomputable def Try.pinned : Pinned := { name := "ytncmklpnppenmaa", sum := "ac92665fdb730e88cfed5f9c6d69fa85080ba18d136b9d1937d299cd6a0a0d00", checked := Try.checked }
namespace Rows
def none {H : Type} : Left H := { results := [], args := [] }

/-- 'ropewalklaw11.PathFails': WHATEVER THE INPUT: true; the input reads as it did. -/
def pathFailsSpec : ChangeSpec := { name := "pathFails", fn := fun _ => fun
  | [d1, d2, d3] => { results := [.lit (.bool true)], args := [d1, d2, d3] }
  | _ => none }
def pathFailsRow : OpenClaim := { program := "ytncmklpnppenmaa", sum := "ac92665fdb730e88cfed5f9c6d69fa85080ba18d136b9d1937d299cd6a0a0d00", func := "ropewalk/ropewalklaw11.PathFails", spec := "pathFails", apart := false }
def PathFailsSaid : Prop := pathFailsRow.holds Try.pinned (OpenSpec.ofChange pathFailsSpec)

/-- ITS FALSE NEIGHBOUR: 'it returns false'. Refute it at one input. -/
def pathFailsWrong : ChangeSpec := { name := "pathFails", fn := fun _ => fun
  | [d1, d2, d3] => { results := [.lit (.bool false)], args := [d1, d2, d3] }
  | _ => none }
def PathFailsWrongFalsely : Prop := pathFailsRow.holds Try.pinned (OpenSpec.ofChange pathFailsWrong)

/-- 'ropewalklaw11.PathBeats': WHATEVER THE INPUT: true; the input reads as it did. -/
def pathBeatsSpec : ChangeSpec := { name := "pathBeats", fn := fun _ => fun
  | [d1, d2, d3, d4] => { results := [.lit (.bool true)], args := [d1, d2, d3, d4] }
  | _ => none }
def pathBeatsRow : OpenClaim := { program := "ytncmklpnppenmaa", sum := "ac92665fdb730e88cfed5f9c6d69fa85080ba18d136b9d1937d299cd6a0a0d00", func := "ropewalk/ropewalklaw11.PathBeats", spec := "pathBeats", apart := false }
def PathBeatsSaid : Prop := pathBeatsRow.holds Try.pinned (OpenSpec.ofChange pathBeatsSpec)

/-- ITS FALSE NEIGHBOUR: 'it returns false'. Refute it at one input. -/
def pathBeatsWrong : ChangeSpec := { name := "pathBeats", fn := fun _ => fun
  | [d1, d2, d3, d4] => { results := [.lit (.bool false)], args := [d1, d2, d3, d4] }
  | _ => none }
def PathBeatsWrongFalsely : Prop := pathBeatsRow.holds Try.pinned (OpenSpec.ofChange pathBeatsWrong)

/-- 'ropewalklaw11.PathRuns': WHATEVER THE INPUT: true; the input reads as it did. -/
def pathRunsSpec : ChangeSpec := { name := "pathRuns", fn := fun _ => fun
  | [d1, d2, d3] => { results := [.lit (.bool true)], args := [d1, d2, d3] }
  | _ => none }
def pathRunsRow : OpenClaim := { program := "ytncmklpnppenmaa", sum := "ac92665fdb730e88cfed5f9c6d69fa85080ba18d136b9d1937d299cd6a0a0d00", func := "ropewalk/ropewalklaw11.PathRuns", spec := "pathRuns", apart := false }
def PathRunsSaid : Prop := pathRunsRow.holds Try.pinned (OpenSpec.ofChange pathRunsSpec)

/-- ITS FALSE NEIGHBOUR: 'it returns false'. Refute it at one input. -/
def pathRunsWrong : ChangeSpec := { name := "pathRuns", fn := fun _ => fun
  | [d1, d2, d3] => { results := [.lit (.bool false)], args := [d1, d2, d3] }
  | _ => none }
def PathRunsWrongFalsely : Prop := pathRunsRow.holds Try.pinned (OpenSpec.ofChange pathRunsWrong)

/-- 'ropewalklaw11.PathNobody': WHATEVER THE INPUT: true; the input reads as it did. -/
def pathNobodySpec : ChangeSpec := { name := "pathNobody", fn := fun _ => fun
  | [d] => { results := [.lit (.bool true)], args := [d] }
  | _ => none }
def pathNobodyRow : OpenClaim := { program := "ytncmklpnppenmaa", sum := "ac92665fdb730e88cfed5f9c6d69fa85080ba18d136b9d1937d299cd6a0a0d00", func := "ropewalk/ropewalklaw11.PathNobody", spec := "pathNobody", apart := false }
def PathNobodySaid : Prop := pathNobodyRow.holds Try.pinned (OpenSpec.ofChange pathNobodySpec)

/-- ITS FALSE NEIGHBOUR: 'it returns false'. Refute it at one input. -/
def pathNobodyWrong : ChangeSpec := { name := "pathNobody", fn := fun _ => fun
  | [d] => { results := [.lit (.bool false)], args := [d] }
  | _ => none }
def PathNobodyWrongFalsely : Prop := pathNobodyRow.holds Try.pinned (OpenSpec.ofChange pathNobodyWrong)

/- THE SECOND FORM. 'bulk': how many values and letters a reading holds, each counted each time it is reached (what is shared counts as often as it is met; a slice's spare places count too). A statement '..UptoSaid' is the law's where the arguments, and the package variables that the reading takes, are together of bulk at most 1048576: NARROWER than '..Said'. Prove '..Said' where nothing that the law and all that it calls make is longer than what came in: it says more and counts as full. Else prove '..UptoSaid'. A law counts once. -/
mutual
def uptoBulk {H : Type} : DataW H → Nat
  | .lit (.string bytes) => bytes.length + 1
  | .lit _ => 1
  | .nil => 1
  | .ptr d => uptoBulk d + 1
  | .slice elems spare => uptoBulkAll elems + uptoBulkAll spare + 1
  | .agg parts => uptoBulkAll parts + 1
  | .iface _ d => uptoBulk d + 1
  | .map entries => uptoBulkEntries entries + 1
  | .held _ => 1
def uptoBulkAll {H : Type} : List (DataW H) → Nat
  | [] => 0
  | d :: r => uptoBulk d + uptoBulkAll r
def uptoBulkEntries {H : Type} : List (Lit × DataW H) → Nat
  | [] => 0
  | x :: r => uptoBulkEntry x + uptoBulkEntries r
def uptoBulkEntry {H : Type} : Lit × DataW H → Nat
  | (.string bytes, d) => bytes.length + uptoBulk d + 1
  | (_, d) => uptoBulk d + 1
 end
def uptoSmall : (H : Type) → List (DataW H) → Bool := fun _ ds => decide (uptoBulkAll ds ≤ 1048576)
def OpenSpec.upto (s : _root_.Go.ChangeSpec) : _root_.Go.OpenSpec := { _root_.Go.OpenSpec.ofChange s with cond := some uptoSmall }

/-- 'ropewalklaw11.PathFails', WHERE WHAT IT READS IS OF BULK AT MOST 1048576: true; the input reads as it did. -/
def pathFailsUptoRow : OpenClaim := { program := "ytncmklpnppenmaa", sum := "ac92665fdb730e88cfed5f9c6d69fa85080ba18d136b9d1937d299cd6a0a0d00", func := "ropewalk/ropewalklaw11.PathFails", spec := "pathFails", apart := false, narrowed := true }
def PathFailsUptoSaid : Prop := pathFailsUptoRow.holds Try.pinned (OpenSpec.upto pathFailsSpec)

/-- 'ropewalklaw11.PathBeats', WHERE WHAT IT READS IS OF BULK AT MOST 1048576: true; the input reads as it did. -/
def pathBeatsUptoRow : OpenClaim := { program := "ytncmklpnppenmaa", sum := "ac92665fdb730e88cfed5f9c6d69fa85080ba18d136b9d1937d299cd6a0a0d00", func := "ropewalk/ropewalklaw11.PathBeats", spec := "pathBeats", apart := false, narrowed := true }
def PathBeatsUptoSaid : Prop := pathBeatsUptoRow.holds Try.pinned (OpenSpec.upto pathBeatsSpec)

/-- 'ropewalklaw11.PathRuns', WHERE WHAT IT READS IS OF BULK AT MOST 1048576: true; the input reads as it did. -/
def pathRunsUptoRow : OpenClaim := { program := "ytncmklpnppenmaa", sum := "ac92665fdb730e88cfed5f9c6d69fa85080ba18d136b9d1937d299cd6a0a0d00", func := "ropewalk/ropewalklaw11.PathRuns", spec := "pathRuns", apart := false, narrowed := true }
def PathRunsUptoSaid : Prop := pathRunsUptoRow.holds Try.pinned (OpenSpec.upto pathRunsSpec)

/-- 'ropewalklaw11.PathNobody', WHERE WHAT IT READS IS OF BULK AT MOST 1048576: true; the input reads as it did. -/
def pathNobodyUptoRow : OpenClaim := { program := "ytncmklpnppenmaa", sum := "ac92665fdb730e88cfed5f9c6d69fa85080ba18d136b9d1937d299cd6a0a0d00", func := "ropewalk/ropewalklaw11.PathNobody", spec := "pathNobody", apart := false, narrowed := true }
def PathNobodyUptoSaid : Prop := pathNobodyUptoRow.holds Try.pinned (OpenSpec.upto pathNobodySpec)

end Rows
end Go.Proofs.Ytncmklpnppenmaa
