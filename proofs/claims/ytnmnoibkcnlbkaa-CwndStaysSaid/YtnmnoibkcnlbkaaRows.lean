/-
  No cell of these rows narrows 'for every input' (looked for: loops, veiled, ifaces, maps, wideKeys, modest, calm, conditions, laid).
  DERIVED. THE GIVEN ROWS OF THIS SEAT. 5 by the template 'for every input the law returns true; each argument reads behind the call as it read before'; 0 by the template 'total and deterministic' (their statements: YtnmnoibkcnlbkaaTotals.lean).
  GIVEN WITH THE SEED: the statements are not yours to turn. If you find one false, say at which input.
  Laid BY PROGRAM, IN A SANDBOX (cutbox-rows.mjs): the forced cells as the released guide's own fill.sh prints them over the translation f6bb499b67588112… (all of the seat's roots in one cut). By AI agents, Wed Nov 11 2026. No macro, syntax, notation, axiom, sorry.
-/
import Derived.Test.YtnmnoibkcnlbkaaChecked
import GoSem.Claim
import GoSem.ClaimJoined
import GoSem.ClaimMapViews
import Derived.JoinedTies
import Derived.KernelRfl
namespace Go.Proofs.Ytnmnoibkcnlbkaa
/- THE CELL 'sum', in the pinned program and in every row, IS THE sha256 OF THE DUMP (.gsa) THAT YtnmnoibkcnlbkaaProg.lean LOADS. Nothing in Lean hashes anything: it is a label: what it is worth is what the hold of that sum in a sandbox is worth. -/
noncomputable def Try.pinned : Pinned := { name := "ytnmnoibkcnlbkaa", sum := "f6bb499b67588112597aabc30685c5cb039606a1cfde704ae7211ab641b97e05", checked := Try.checked }
namespace Rows
def none {H : Type} : Left H := { results := [], args := [] }

/-- 'ropewalklaw12.CwndDoubles': WHATEVER THE INPUT: true; the input reads as it did. -/
def cwndDoublesSpec : ChangeSpec := { name := "cwndDoubles", fn := fun _ => fun
  | [d1, d2, d3] => { results := [.lit (.bool true)], args := [d1, d2, d3] }
  | _ => none }
def cwndDoublesRow : OpenClaim := { program := "ytnmnoibkcnlbkaa", sum := "f6bb499b67588112597aabc30685c5cb039606a1cfde704ae7211ab641b97e05", func := "ropewalk/ropewalklaw12.CwndDoubles", spec := "cwndDoubles", unfollowed := true, recurses := true, apart := false }
def CwndDoublesSaid : Prop := cwndDoublesRow.holds Try.pinned (OpenSpec.ofChange cwndDoublesSpec)

/-- ITS FALSE NEIGHBOUR: 'it returns false'. Refute it at one input. -/
def cwndDoublesWrong : ChangeSpec := { name := "cwndDoubles", fn := fun _ => fun
  | [d1, d2, d3] => { results := [.lit (.bool false)], args := [d1, d2, d3] }
  | _ => none }
def CwndDoublesWrongFalsely : Prop := cwndDoublesRow.holds Try.pinned (OpenSpec.ofChange cwndDoublesWrong)

/-- 'ropewalklaw12.CwndAcks': WHATEVER THE INPUT: true; the input reads as it did. -/
def cwndAcksSpec : ChangeSpec := { name := "cwndAcks", fn := fun _ => fun
  | [d1, d2, d3, d4] => { results := [.lit (.bool true)], args := [d1, d2, d3, d4] }
  | _ => none }
def cwndAcksRow : OpenClaim := { program := "ytnmnoibkcnlbkaa", sum := "f6bb499b67588112597aabc30685c5cb039606a1cfde704ae7211ab641b97e05", func := "ropewalk/ropewalklaw12.CwndAcks", spec := "cwndAcks", unfollowed := true, recurses := true, apart := false }
def CwndAcksSaid : Prop := cwndAcksRow.holds Try.pinned (OpenSpec.ofChange cwndAcksSpec)

/-- ITS FALSE NEIGHBOUR: 'it returns false'. Refute it at one input. -/
def cwndAcksWrong : ChangeSpec := { name := "cwndAcks", fn := fun _ => fun
  | [d1, d2, d3, d4] => { results := [.lit (.bool false)], args := [d1, d2, d3, d4] }
  | _ => none }
def CwndAcksWrongFalsely : Prop := cwndAcksRow.holds Try.pinned (OpenSpec.ofChange cwndAcksWrong)

/-- 'ropewalklaw12.CwndOpens': WHATEVER THE INPUT: true; the input reads as it did. -/
def cwndOpensSpec : ChangeSpec := { name := "cwndOpens", fn := fun _ => fun
  | [d1, d2, d3, d4, d5] => { results := [.lit (.bool true)], args := [d1, d2, d3, d4, d5] }
  | _ => none }
def cwndOpensRow : OpenClaim := { program := "ytnmnoibkcnlbkaa", sum := "f6bb499b67588112597aabc30685c5cb039606a1cfde704ae7211ab641b97e05", func := "ropewalk/ropewalklaw12.CwndOpens", spec := "cwndOpens", unfollowed := true, recurses := true, apart := false }
def CwndOpensSaid : Prop := cwndOpensRow.holds Try.pinned (OpenSpec.ofChange cwndOpensSpec)

/-- ITS FALSE NEIGHBOUR: 'it returns false'. Refute it at one input. -/
def cwndOpensWrong : ChangeSpec := { name := "cwndOpens", fn := fun _ => fun
  | [d1, d2, d3, d4, d5] => { results := [.lit (.bool false)], args := [d1, d2, d3, d4, d5] }
  | _ => none }
def CwndOpensWrongFalsely : Prop := cwndOpensRow.holds Try.pinned (OpenSpec.ofChange cwndOpensWrong)

/-- 'ropewalklaw12.CwndFalls': WHATEVER THE INPUT: true; the input reads as it did. -/
def cwndFallsSpec : ChangeSpec := { name := "cwndFalls", fn := fun _ => fun
  | [d] => { results := [.lit (.bool true)], args := [d] }
  | _ => none }
def cwndFallsRow : OpenClaim := { program := "ytnmnoibkcnlbkaa", sum := "f6bb499b67588112597aabc30685c5cb039606a1cfde704ae7211ab641b97e05", func := "ropewalk/ropewalklaw12.CwndFalls", spec := "cwndFalls", unfollowed := true, recurses := true, apart := false }
def CwndFallsSaid : Prop := cwndFallsRow.holds Try.pinned (OpenSpec.ofChange cwndFallsSpec)

/-- ITS FALSE NEIGHBOUR: 'it returns false'. Refute it at one input. -/
def cwndFallsWrong : ChangeSpec := { name := "cwndFalls", fn := fun _ => fun
  | [d] => { results := [.lit (.bool false)], args := [d] }
  | _ => none }
def CwndFallsWrongFalsely : Prop := cwndFallsRow.holds Try.pinned (OpenSpec.ofChange cwndFallsWrong)

/-- 'ropewalklaw12.CwndStays': WHATEVER THE INPUT: true; the input reads as it did. -/
def cwndStaysSpec : ChangeSpec := { name := "cwndStays", fn := fun _ => fun
  | [d1, d2] => { results := [.lit (.bool true)], args := [d1, d2] }
  | _ => none }
def cwndStaysRow : OpenClaim := { program := "ytnmnoibkcnlbkaa", sum := "f6bb499b67588112597aabc30685c5cb039606a1cfde704ae7211ab641b97e05", func := "ropewalk/ropewalklaw12.CwndStays", spec := "cwndStays", unfollowed := true, recurses := true, apart := false }
def CwndStaysSaid : Prop := cwndStaysRow.holds Try.pinned (OpenSpec.ofChange cwndStaysSpec)

/-- ITS FALSE NEIGHBOUR: 'it returns false'. Refute it at one input. -/
def cwndStaysWrong : ChangeSpec := { name := "cwndStays", fn := fun _ => fun
  | [d1, d2] => { results := [.lit (.bool false)], args := [d1, d2] }
  | _ => none }
def CwndStaysWrongFalsely : Prop := cwndStaysRow.holds Try.pinned (OpenSpec.ofChange cwndStaysWrong)

/- THE SECOND FORM. 'bulk': how many values and letters a reading holds, each counted each time it is reached (what is shared counts as often as it is met; a slice's spare places count too). A statement '..UptoSaid' is the law's where the arguments, and the package variables that the reading takes, are together of bulk at most 1048576: NARROWER than '..Said'. Prove '..Said' where nothing that the law and all that it calls make is longer than what came in: it says more and counts as full. Else prove '..UptoSaid'. A law counts once. -/
mutual
def uptoBulk {H : Type} : DataW H → Nat
  | .lit (.string bytes) => bytes.length + 1
  | .lit _ => 1
  | .nil => 1
  | .ptr d => uptoBulk d + 1
  | .slice elems spare => uptoBulkAll elems + uptoBulkAll spare + 1
  | .agg parts => uptoBulkAll parts + 1
  | .iface _ d => uptoBulk d + 1
  | .map entries => uptoBulkEntries entries + 1
  | .held _ => 1
def uptoBulkAll {H : Type} : List (DataW H) → Nat
  | [] => 0
  | d :: r => uptoBulk d + uptoBulkAll r
def uptoBulkEntries {H : Type} : List (Lit × DataW H) → Nat
  | [] => 0
  | x :: r => uptoBulkEntry x + uptoBulkEntries r
def uptoBulkEntry {H : Type} : Lit × DataW H → Nat
  | (.string bytes, d) => bytes.length + uptoBulk d + 1
  | (_, d) => uptoBulk d + 1
 end
def uptoSmall : (H : Type) → List (DataW H) → Bool := fun _ ds => decide (uptoBulkAll ds ≤ 1048576)
def OpenSpec.upto (s : _root_.Go.ChangeSpec) : _root_.Go.OpenSpec := { _root_.Go.OpenSpec.ofChange s with cond := some uptoSmall }

/-- 'ropewalklaw12.CwndDoubles', WHERE WHAT IT READS IS OF BULK AT MOST 1048576: true; the input reads as it did. -/
def cwndDoublesUptoRow : OpenClaim := { program := "ytnmnoibkcnlbkaa", sum := "f6bb499b67588112597aabc30685c5cb039606a1cfde704ae7211ab641b97e05", func := "ropewalk/ropewalklaw12.CwndDoubles", spec := "cwndDoubles", unfollowed := true, recurses := true, apart := false, narrowed := true }
def CwndDoublesUptoSaid : Prop := cwndDoublesUptoRow.holds Try.pinned (OpenSpec.upto cwndDoublesSpec)

/-- 'ropewalklaw12.CwndAcks', WHERE WHAT IT READS IS OF BULK AT MOST 1048576: true; the input reads as it did. -/
def cwndAcksUptoRow : OpenClaim := { program := "ytnmnoibkcnlbkaa", sum := "f6bb499b67588112597aabc30685c5cb039606a1cfde704ae7211ab641b97e05", func := "ropewalk/ropewalklaw12.CwndAcks", spec := "cwndAcks", unfollowed := true, recurses := true, apart := false, narrowed := true }
def CwndAcksUptoSaid : Prop := cwndAcksUptoRow.holds Try.pinned (OpenSpec.upto cwndAcksSpec)

/-- 'ropewalklaw12.CwndOpens', WHERE WHAT IT READS IS OF BULK AT MOST 1048576: true; the input reads as it did. -/
def cwndOpensUptoRow : OpenClaim := { program := "ytnmnoibkcnlbkaa", sum := "f6bb499b67588112597aabc30685c5cb039606a1cfde704ae7211ab641b97e05", func := "ropewalk/ropewalklaw12.CwndOpens", spec := "cwndOpens", unfollowed := true, recurses := true, apart := false, narrowed := true }
def CwndOpensUptoSaid : Prop := cwndOpensUptoRow.holds Try.pinned (OpenSpec.upto cwndOpensSpec)

/-- 'ropewalklaw12.CwndFalls', WHERE WHAT IT READS IS OF BULK AT MOST 1048576: true; the input reads as it did. -/
def cwndFallsUptoRow : OpenClaim := { program := "ytnmnoibkcnlbkaa", sum := "f6bb499b67588112597aabc30685c5cb039606a1cfde704ae7211ab641b97e05", func := "ropewalk/ropewalklaw12.CwndFalls", spec := "cwndFalls", unfollowed := true, recurses := true, apart := false, narrowed := true }
def CwndFallsUptoSaid : Prop := cwndFallsUptoRow.holds Try.pinned (OpenSpec.upto cwndFallsSpec)

/-- 'ropewalklaw12.CwndStays', WHERE WHAT IT READS IS OF BULK AT MOST 1048576: true; the input reads as it did. -/
def cwndStaysUptoRow : OpenClaim := { program := "ytnmnoibkcnlbkaa", sum := "f6bb499b67588112597aabc30685c5cb039606a1cfde704ae7211ab641b97e05", func := "ropewalk/ropewalklaw12.CwndStays", spec := "cwndStays", unfollowed := true, recurses := true, apart := false, narrowed := true }
def CwndStaysUptoSaid : Prop := cwndStaysUptoRow.holds Try.pinned (OpenSpec.upto cwndStaysSpec)

end Rows
end Go.Proofs.Ytnmnoibkcnlbkaa
