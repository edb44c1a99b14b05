/-
  No cell of these rows narrows 'for every input' (looked for: loops, veiled, ifaces, maps, wideKeys, modest, calm, conditions, laid).
  DERIVED. THE GIVEN ROWS OF THIS SEAT. 6 by the template 'for every input the law returns true; each argument reads behind the call as it read before'; 0 by the template 'total and deterministic' (their statements: YtbppdgekjdpgiaaTotals.lean).
  GIVEN WITH THE SEED: the statements are not yours to turn. If you find one false, say at which input.
  Laid BY PROGRAM, IN A SANDBOX (cutbox-rows.mjs): the forced cells as the released guide's own fill.sh prints them over the translation 00d602d83b6b4ad4… (all of the seat's roots in one cut). By AI agents, Wed Nov 11 2026. No macro, syntax, notation, axiom, sorry.
-/
import Derived.Test.YtbppdgekjdpgiaaChecked
import GoSem.Claim
import GoSem.ClaimJoined
import GoSem.ClaimMapViews
import Derived.JoinedTies
import Derived.KernelRfl
namespace Go.Proofs.Ytbppdgekjdpgiaa
/- THE CELL 'sum', in the pinned program and in every row, IS THE sha256 OF THE DUMP (.gsa) THAT YtbppdgekjdpgiaaProg.lean LOADS. Nothing in Lean hashes anything: it is a label: what it is worth is what the hold of that sum in a sandbox is worth. -/
noncomputable def Try.pinned : Pinned := { name := "ytbppdgekjdpgiaa", sum := "00d602d83b6b4ad4fce5c949692c37be44936599d92212befe13538c0ceaebed", checked := Try.checked }
namespace Rows
def none {H : Type} : Left H := { results := [], args := [] }

/-- 'ropewalklaw16.StreamsWhole': WHATEVER THE INPUT: true; the input reads as it did. -/
def streamsWholeSpec : ChangeSpec := { name := "streamsWhole", fn := fun _ => fun
  | [d1, d2] => { results := [.lit (.bool true)], args := [d1, d2] }
  | _ => none }
def streamsWholeRow : OpenClaim := { program := "ytbppdgekjdpgiaa", sum := "00d602d83b6b4ad4fce5c949692c37be44936599d92212befe13538c0ceaebed", func := "ropewalk/ropewalklaw16.StreamsWhole", spec := "streamsWhole", unfollowed := true, recurses := true, apart := false }
def StreamsWholeSaid : Prop := streamsWholeRow.holds Try.pinned (OpenSpec.ofChange streamsWholeSpec)

/-- ITS FALSE NEIGHBOUR: 'it returns false'. Refute it at one input. -/
def streamsWholeWrong : ChangeSpec := { name := "streamsWhole", fn := fun _ => fun
  | [d1, d2] => { results := [.lit (.bool false)], args := [d1, d2] }
  | _ => none }
def StreamsWholeWrongFalsely : Prop := streamsWholeRow.holds Try.pinned (OpenSpec.ofChange streamsWholeWrong)

/-- 'ropewalklaw16.StreamsFair': WHATEVER THE INPUT: true; the input reads as it did. -/
def streamsFairSpec : ChangeSpec := { name := "streamsFair", fn := fun _ => fun
  | [d1, d2] => { results := [.lit (.bool true)], args := [d1, d2] }
  | _ => none }
def streamsFairRow : OpenClaim := { program := "ytbppdgekjdpgiaa", sum := "00d602d83b6b4ad4fce5c949692c37be44936599d92212befe13538c0ceaebed", func := "ropewalk/ropewalklaw16.StreamsFair", spec := "streamsFair", unfollowed := true, recurses := true, apart := false }
def StreamsFairSaid : Prop := streamsFairRow.holds Try.pinned (OpenSpec.ofChange streamsFairSpec)

/-- ITS FALSE NEIGHBOUR: 'it returns false'. Refute it at one input. -/
def streamsFairWrong : ChangeSpec := { name := "streamsFair", fn := fun _ => fun
  | [d1, d2] => { results := [.lit (.bool false)], args := [d1, d2] }
  | _ => none }
def StreamsFairWrongFalsely : Prop := streamsFairRow.holds Try.pinned (OpenSpec.ofChange streamsFairWrong)

/-- 'ropewalklaw16.StreamsOwn': WHATEVER THE INPUT: true; the input reads as it did. -/
def streamsOwnSpec : ChangeSpec := { name := "streamsOwn", fn := fun _ => fun
  | [d] => { results := [.lit (.bool true)], args := [d] }
  | _ => none }
def streamsOwnRow : OpenClaim := { program := "ytbppdgekjdpgiaa", sum := "00d602d83b6b4ad4fce5c949692c37be44936599d92212befe13538c0ceaebed", func := "ropewalk/ropewalklaw16.StreamsOwn", spec := "streamsOwn", unfollowed := true, recurses := true, apart := false }
def StreamsOwnSaid : Prop := streamsOwnRow.holds Try.pinned (OpenSpec.ofChange streamsOwnSpec)

/-- ITS FALSE NEIGHBOUR: 'it returns false'. Refute it at one input. -/
def streamsOwnWrong : ChangeSpec := { name := "streamsOwn", fn := fun _ => fun
  | [d] => { results := [.lit (.bool false)], args := [d] }
  | _ => none }
def StreamsOwnWrongFalsely : Prop := streamsOwnRow.holds Try.pinned (OpenSpec.ofChange streamsOwnWrong)

/-- 'ropewalklaw16.StreamsBounds': WHATEVER THE INPUT: true; the input reads as it did. -/
def streamsBoundsSpec : ChangeSpec := { name := "streamsBounds", fn := fun _ => fun
  | [d1, d2, d3] => { results := [.lit (.bool true)], args := [d1, d2, d3] }
  | _ => none }
def streamsBoundsRow : OpenClaim := { program := "ytbppdgekjdpgiaa", sum := "00d602d83b6b4ad4fce5c949692c37be44936599d92212befe13538c0ceaebed", func := "ropewalk/ropewalklaw16.StreamsBounds", spec := "streamsBounds", unfollowed := true, recurses := true, apart := false }
def StreamsBoundsSaid : Prop := streamsBoundsRow.holds Try.pinned (OpenSpec.ofChange streamsBoundsSpec)

/-- ITS FALSE NEIGHBOUR: 'it returns false'. Refute it at one input. -/
def streamsBoundsWrong : ChangeSpec := { name := "streamsBounds", fn := fun _ => fun
  | [d1, d2, d3] => { results := [.lit (.bool false)], args := [d1, d2, d3] }
  | _ => none }
def StreamsBoundsWrongFalsely : Prop := streamsBoundsRow.holds Try.pinned (OpenSpec.ofChange streamsBoundsWrong)

/-- 'ropewalklaw16.StreamsRuns': WHATEVER THE INPUT: true; the input reads as it did. -/
def streamsRunsSpec : ChangeSpec := { name := "streamsRuns", fn := fun _ => fun
  | [d1, d2, d3] => { results := [.lit (.bool true)], args := [d1, d2, d3] }
  | _ => none }
def streamsRunsRow : OpenClaim := { program := "ytbppdgekjdpgiaa", sum := "00d602d83b6b4ad4fce5c949692c37be44936599d92212befe13538c0ceaebed", func := "ropewalk/ropewalklaw16.StreamsRuns", spec := "streamsRuns", unfollowed := true, recurses := true, apart := false }
def StreamsRunsSaid : Prop := streamsRunsRow.holds Try.pinned (OpenSpec.ofChange streamsRunsSpec)

/-- ITS FALSE NEIGHBOUR: 'it returns false'. Refute it at one input. -/
def streamsRunsWrong : ChangeSpec := { name := "streamsRuns", fn := fun _ => fun
  | [d1, d2, d3] => { results := [.lit (.bool false)], args := [d1, d2, d3] }
  | _ => none }
def StreamsRunsWrongFalsely : Prop := streamsRunsRow.holds Try.pinned (OpenSpec.ofChange streamsRunsWrong)

/-- 'ropewalklaw16.StreamsNobody': WHATEVER THE INPUT: true; the input reads as it did. -/
def streamsNobodySpec : ChangeSpec := { name := "streamsNobody", fn := fun _ => fun
  | [d] => { results := [.lit (.bool true)], args := [d] }
  | _ => none }
def streamsNobodyRow : OpenClaim := { program := "ytbppdgekjdpgiaa", sum := "00d602d83b6b4ad4fce5c949692c37be44936599d92212befe13538c0ceaebed", func := "ropewalk/ropewalklaw16.StreamsNobody", spec := "streamsNobody", unfollowed := true, recurses := true, apart := false }
def StreamsNobodySaid : Prop := streamsNobodyRow.holds Try.pinned (OpenSpec.ofChange streamsNobodySpec)

/-- ITS FALSE NEIGHBOUR: 'it returns false'. Refute it at one input. -/
def streamsNobodyWrong : ChangeSpec := { name := "streamsNobody", fn := fun _ => fun
  | [d] => { results := [.lit (.bool false)], args := [d] }
  | _ => none }
def StreamsNobodyWrongFalsely : Prop := streamsNobodyRow.holds Try.pinned (OpenSpec.ofChange streamsNobodyWrong)

/- THE SECOND FORM. 'bulk': how many values and letters a reading holds, each counted each time it is reached (what is shared counts as often as it is met; a slice's spare places count too). A statement '..UptoSaid' is the law's where the arguments, and the package variables that the reading takes, are together of bulk at most 1048576: NARROWER than '..Said'. Prove '..Said' where nothing that the law and all that it calls make is longer than what came in: it says more and counts as full. Else prove '..UptoSaid'. A law counts once. -/
mutual
def uptoBulk {H : Type} : DataW H → Nat
  | .lit (.string bytes) => bytes.length + 1
  | .lit _ => 1
  | .nil => 1
  | .ptr d => uptoBulk d + 1
  | .slice elems spare => uptoBulkAll elems + uptoBulkAll spare + 1
  | .agg parts => uptoBulkAll parts + 1
  | .iface _ d => uptoBulk d + 1
  | .map entries => uptoBulkEntries entries + 1
  | .held _ => 1
def uptoBulkAll {H : Type} : List (DataW H) → Nat
  | [] => 0
  | d :: r => uptoBulk d + uptoBulkAll r
def uptoBulkEntries {H : Type} : List (Lit × DataW H) → Nat
  | [] => 0
  | x :: r => uptoBulkEntry x + uptoBulkEntries r
def uptoBulkEntry {H : Type} : Lit × DataW H → Nat
  | (.string bytes, d) => bytes.length + uptoBulk d + 1
  | (_, d) => uptoBulk d + 1
 end
def uptoSmall : (H : Type) → List (DataW H) → Bool := fun _ ds => decide (uptoBulkAll ds ≤ 1048576)
def OpenSpec.upto (s : _root_.Go.ChangeSpec) : _root_.Go.OpenSpec := { _root_.Go.OpenSpec.ofChange s with cond := some uptoSmall }

/-- 'ropewalklaw16.StreamsWhole', WHERE WHAT IT READS IS OF BULK AT MOST 1048576: true; the input reads as it did. -/
def streamsWholeUptoRow : OpenClaim := { program := "ytbppdgekjdpgiaa", sum := "00d602d83b6b4ad4fce5c949692c37be44936599d92212befe13538c0ceaebed", func := "ropewalk/ropewalklaw16.StreamsWhole", spec := "streamsWhole", unfollowed := true, recurses := true, apart := false, narrowed := true }
def StreamsWholeUptoSaid : Prop := streamsWholeUptoRow.holds Try.pinned (OpenSpec.upto streamsWholeSpec)

/-- 'ropewalklaw16.StreamsFair', WHERE WHAT IT READS IS OF BULK AT MOST 1048576: true; the input reads as it did. -/
def streamsFairUptoRow : OpenClaim := { program := "ytbppdgekjdpgiaa", sum := "00d602d83b6b4ad4fce5c949692c37be44936599d92212befe13538c0ceaebed", func := "ropewalk/ropewalklaw16.StreamsFair", spec := "streamsFair", unfollowed := true, recurses := true, apart := false, narrowed := true }
def StreamsFairUptoSaid : Prop := streamsFairUptoRow.holds Try.pinned (OpenSpec.upto streamsFairSpec)

/-- 'ropewalklaw16.StreamsOwn', WHERE WHAT IT READS IS OF BULK AT MOST 1048576: true; the input reads as it did. -/
def streamsOwnUptoRow : OpenClaim := { program := "ytbppdgekjdpgiaa", sum := "00d602d83b6b4ad4fce5c949692c37be44936599d92212befe13538c0ceaebed", func := "ropewalk/ropewalklaw16.StreamsOwn", spec := "streamsOwn", unfollowed := true, recurses := true, apart := false, narrowed := true }
def StreamsOwnUptoSaid : Prop := streamsOwnUptoRow.holds Try.pinned (OpenSpec.upto streamsOwnSpec)

/-- 'ropewalklaw16.StreamsBounds', WHERE WHAT IT READS IS OF BULK AT MOST 1048576: true; the input reads as it did. -/
def streamsBoundsUptoRow : OpenClaim := { program := "ytbppdgekjdpgiaa", sum := "00d602d83b6b4ad4fce5c949692c37be44936599d92212befe13538c0ceaebed", func := "ropewalk/ropewalklaw16.StreamsBounds", spec := "streamsBounds", unfollowed := true, recurses := true, apart := false, narrowed := true }
def StreamsBoundsUptoSaid : Prop := streamsBoundsUptoRow.holds Try.pinned (OpenSpec.upto streamsBoundsSpec)

/-- 'ropewalklaw16.StreamsRuns', WHERE WHAT IT READS IS OF BULK AT MOST 1048576: true; the input reads as it did. -/
def streamsRunsUptoRow : OpenClaim := { program := "ytbppdgekjdpgiaa", sum := "00d602d83b6b4ad4fce5c949692c37be44936599d92212befe13538c0ceaebed", func := "ropewalk/ropewalklaw16.StreamsRuns", spec := "streamsRuns", unfollowed := true, recurses := true, apart := false, narrowed := true }
def StreamsRunsUptoSaid : Prop := streamsRunsUptoRow.holds Try.pinned (OpenSpec.upto streamsRunsSpec)

/-- 'ropewalklaw16.StreamsNobody', WHERE WHAT IT READS IS OF BULK AT MOST 1048576: true; the input reads as it did. -/
def streamsNobodyUptoRow : OpenClaim := { program := "ytbppdgekjdpgiaa", sum := "00d602d83b6b4ad4fce5c949692c37be44936599d92212befe13538c0ceaebed", func := "ropewalk/ropewalklaw16.StreamsNobody", spec := "streamsNobody", unfollowed := true, recurses := true, apart := false, narrowed := true }
def StreamsNobodyUptoSaid : Prop := streamsNobodyUptoRow.holds Try.pinned (OpenSpec.upto streamsNobodySpec)

end Rows
end Go.Proofs.Ytbppdgekjdpgiaa
