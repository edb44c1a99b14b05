/-
  No cell of these rows narrows 'for every input' (looked for: loops, veiled, ifaces, maps, wideKeys, modest, calm, conditions, laid).
  DERIVED. THE GIVEN ROWS OF THIS SEAT. 6 by the template 'for every input the law returns true; each argument reads behind the call as it read before'; 0 by the template 'total and deterministic' (their statements: YtmbklkgaapncfaaTotals.lean).
  GIVEN WITH THE SEED: the statements are not yours to turn. If you find one false, say at which input.
  Laid BY PROGRAM, IN A SANDBOX (cutbox-rows.mjs): the forced cells as the released guide's own fill.sh prints them over the translation c5e9041628aefb06… (all of the seat's roots in one cut). By AI agents, Wed Nov 11 2026. No macro, syntax, notation, axiom, sorry.
-/
import Derived.Test.YtmbklkgaapncfaaChecked
import GoSem.Claim
import GoSem.ClaimJoined
import GoSem.ClaimMapViews
import Derived.JoinedTies
import Derived.KernelRfl
namespace Go.Proofs.Ytmbklkgaapncfaa
/- THE CELL 'sum', in the pinned program and in every row, IS THE sha256 OF THE DUMP (.gsa) THAT YtmbklkgaapncfaaProg.lean LOADS. Nothing in Lean hashes anything: it is a label: what it is worth is what the hold of that sum in a sandbox is worth. -/
noncomputable def Try.pinned : Pinned := { name := "ytmbklkgaapncfaa", sum := "c5e9041628aefb063f535899d5aa959025dbeabdf383b829d1601d6d919438d8", checked := Try.checked }
namespace Rows
def none {H : Type} : Left H := { results := [], args := [] }

/-- 'ropewalklaw13.CoupleCuts': WHATEVER THE INPUT: true; the input reads as it did. -/
def coupleCutsSpec : ChangeSpec := { name := "coupleCuts", fn := fun _ => fun
  | [d1, d2, d3] => { results := [.lit (.bool true)], args := [d1, d2, d3] }
  | _ => none }
def coupleCutsRow : OpenClaim := { program := "ytmbklkgaapncfaa", sum := "c5e9041628aefb063f535899d5aa959025dbeabdf383b829d1601d6d919438d8", func := "ropewalk/ropewalklaw13.CoupleCuts", spec := "coupleCuts", unfollowed := true, recurses := true, apart := false }
def CoupleCutsSaid : Prop := coupleCutsRow.holds Try.pinned (OpenSpec.ofChange coupleCutsSpec)

/-- ITS FALSE NEIGHBOUR: 'it returns false'. Refute it at one input. -/
def coupleCutsWrong : ChangeSpec := { name := "coupleCuts", fn := fun _ => fun
  | [d1, d2, d3] => { results := [.lit (.bool false)], args := [d1, d2, d3] }
  | _ => none }
def CoupleCutsWrongFalsely : Prop := coupleCutsRow.holds Try.pinned (OpenSpec.ofChange coupleCutsWrong)

/-- 'ropewalklaw13.CoupleAll': WHATEVER THE INPUT: true; the input reads as it did. -/
def coupleAllSpec : ChangeSpec := { name := "coupleAll", fn := fun _ => fun
  | [d1, d2] => { results := [.lit (.bool true)], args := [d1, d2] }
  | _ => none }
def coupleAllRow : OpenClaim := { program := "ytmbklkgaapncfaa", sum := "c5e9041628aefb063f535899d5aa959025dbeabdf383b829d1601d6d919438d8", func := "ropewalk/ropewalklaw13.CoupleAll", spec := "coupleAll", unfollowed := true, recurses := true, apart := false }
def CoupleAllSaid : Prop := coupleAllRow.holds Try.pinned (OpenSpec.ofChange coupleAllSpec)

/-- ITS FALSE NEIGHBOUR: 'it returns false'. Refute it at one input. -/
def coupleAllWrong : ChangeSpec := { name := "coupleAll", fn := fun _ => fun
  | [d1, d2] => { results := [.lit (.bool false)], args := [d1, d2] }
  | _ => none }
def CoupleAllWrongFalsely : Prop := coupleAllRow.holds Try.pinned (OpenSpec.ofChange coupleAllWrong)

/-- 'ropewalklaw13.CoupleShares': WHATEVER THE INPUT: true; the input reads as it did. -/
def coupleSharesSpec : ChangeSpec := { name := "coupleShares", fn := fun _ => fun
  | [d1, d2, d3, d4] => { results := [.lit (.bool true)], args := [d1, d2, d3, d4] }
  | _ => none }
def coupleSharesRow : OpenClaim := { program := "ytmbklkgaapncfaa", sum := "c5e9041628aefb063f535899d5aa959025dbeabdf383b829d1601d6d919438d8", func := "ropewalk/ropewalklaw13.CoupleShares", spec := "coupleShares", unfollowed := true, recurses := true, apart := false }
def CoupleSharesSaid : Prop := coupleSharesRow.holds Try.pinned (OpenSpec.ofChange coupleSharesSpec)

/-- ITS FALSE NEIGHBOUR: 'it returns false'. Refute it at one input. -/
def coupleSharesWrong : ChangeSpec := { name := "coupleShares", fn := fun _ => fun
  | [d1, d2, d3, d4] => { results := [.lit (.bool false)], args := [d1, d2, d3, d4] }
  | _ => none }
def CoupleSharesWrongFalsely : Prop := coupleSharesRow.holds Try.pinned (OpenSpec.ofChange coupleSharesWrong)

/-- 'ropewalklaw13.CoupleGrows': WHATEVER THE INPUT: true; the input reads as it did. -/
def coupleGrowsSpec : ChangeSpec := { name := "coupleGrows", fn := fun _ => fun
  | [d1, d2, d3, d4] => { results := [.lit (.bool true)], args := [d1, d2, d3, d4] }
  | _ => none }
def coupleGrowsRow : OpenClaim := { program := "ytmbklkgaapncfaa", sum := "c5e9041628aefb063f535899d5aa959025dbeabdf383b829d1601d6d919438d8", func := "ropewalk/ropewalklaw13.CoupleGrows", spec := "coupleGrows", unfollowed := true, recurses := true, apart := false }
def CoupleGrowsSaid : Prop := coupleGrowsRow.holds Try.pinned (OpenSpec.ofChange coupleGrowsSpec)

/-- ITS FALSE NEIGHBOUR: 'it returns false'. Refute it at one input. -/
def coupleGrowsWrong : ChangeSpec := { name := "coupleGrows", fn := fun _ => fun
  | [d1, d2, d3, d4] => { results := [.lit (.bool false)], args := [d1, d2, d3, d4] }
  | _ => none }
def CoupleGrowsWrongFalsely : Prop := coupleGrowsRow.holds Try.pinned (OpenSpec.ofChange coupleGrowsWrong)

/-- 'ropewalklaw13.CoupleReports': WHATEVER THE INPUT: true; the input reads as it did. -/
def coupleReportsSpec : ChangeSpec := { name := "coupleReports", fn := fun _ => fun
  | [d1, d2, d3, d4] => { results := [.lit (.bool true)], args := [d1, d2, d3, d4] }
  | _ => none }
def coupleReportsRow : OpenClaim := { program := "ytmbklkgaapncfaa", sum := "c5e9041628aefb063f535899d5aa959025dbeabdf383b829d1601d6d919438d8", func := "ropewalk/ropewalklaw13.CoupleReports", spec := "coupleReports", unfollowed := true, recurses := true, apart := false }
def CoupleReportsSaid : Prop := coupleReportsRow.holds Try.pinned (OpenSpec.ofChange coupleReportsSpec)

/-- ITS FALSE NEIGHBOUR: 'it returns false'. Refute it at one input. -/
def coupleReportsWrong : ChangeSpec := { name := "coupleReports", fn := fun _ => fun
  | [d1, d2, d3, d4] => { results := [.lit (.bool false)], args := [d1, d2, d3, d4] }
  | _ => none }
def CoupleReportsWrongFalsely : Prop := coupleReportsRow.holds Try.pinned (OpenSpec.ofChange coupleReportsWrong)

/-- 'ropewalklaw13.CoupleOneMtu': WHATEVER THE INPUT: true; the input reads as it did. -/
def coupleOneMtuSpec : ChangeSpec := { name := "coupleOneMtu", fn := fun _ => fun
  | [d1, d2, d3, d4] => { results := [.lit (.bool true)], args := [d1, d2, d3, d4] }
  | _ => none }
def coupleOneMtuRow : OpenClaim := { program := "ytmbklkgaapncfaa", sum := "c5e9041628aefb063f535899d5aa959025dbeabdf383b829d1601d6d919438d8", func := "ropewalk/ropewalklaw13.CoupleOneMtu", spec := "coupleOneMtu", unfollowed := true, recurses := true, apart := false }
def CoupleOneMtuSaid : Prop := coupleOneMtuRow.holds Try.pinned (OpenSpec.ofChange coupleOneMtuSpec)

/-- ITS FALSE NEIGHBOUR: 'it returns false'. Refute it at one input. -/
def coupleOneMtuWrong : ChangeSpec := { name := "coupleOneMtu", fn := fun _ => fun
  | [d1, d2, d3, d4] => { results := [.lit (.bool false)], args := [d1, d2, d3, d4] }
  | _ => none }
def CoupleOneMtuWrongFalsely : Prop := coupleOneMtuRow.holds Try.pinned (OpenSpec.ofChange coupleOneMtuWrong)

/- THE SECOND FORM. 'bulk': how many values and letters a reading holds, each counted each time it is reached (what is shared counts as often as it is met; a slice's spare places count too). A statement '..UptoSaid' is the law's where the arguments, and the package variables that the reading takes, are together of bulk at most 1048576: NARROWER than '..Said'. Prove '..Said' where nothing that the law and all that it calls make is longer than what came in: it says more and counts as full. Else prove '..UptoSaid'. A law counts once. -/
mutual
def uptoBulk {H : Type} : DataW H → Nat
  | .lit (.string bytes) => bytes.length + 1
  | .lit _ => 1
  | .nil => 1
  | .ptr d => uptoBulk d + 1
  | .slice elems spare => uptoBulkAll elems + uptoBulkAll spare + 1
  | .agg parts => uptoBulkAll parts + 1
  | .iface _ d => uptoBulk d + 1
  | .map entries => uptoBulkEntries entries + 1
  | .held _ => 1
def uptoBulkAll {H : Type} : List (DataW H) → Nat
  | [] => 0
  | d :: r => uptoBulk d + uptoBulkAll r
def uptoBulkEntries {H : Type} : List (Lit × DataW H) → Nat
  | [] => 0
  | x :: r => uptoBulkEntry x + uptoBulkEntries r
def uptoBulkEntry {H : Type} : Lit × DataW H → Nat
  | (.string bytes, d) => bytes.length + uptoBulk d + 1
  | (_, d) => uptoBulk d + 1
 end
def uptoSmall : (H : Type) → List (DataW H) → Bool := fun _ ds => decide (uptoBulkAll ds ≤ 1048576)
def OpenSpec.upto (s : _root_.Go.ChangeSpec) : _root_.Go.OpenSpec := { _root_.Go.OpenSpec.ofChange s with cond := some uptoSmall }

/-- 'ropewalklaw13.CoupleCuts', WHERE WHAT IT READS IS OF BULK AT MOST 1048576: true; the input reads as it did. -/
def coupleCutsUptoRow : OpenClaim := { program := "ytmbklkgaapncfaa", sum := "c5e9041628aefb063f535899d5aa959025dbeabdf383b829d1601d6d919438d8", func := "ropewalk/ropewalklaw13.CoupleCuts", spec := "coupleCuts", unfollowed := true, recurses := true, apart := false, narrowed := true }
def CoupleCutsUptoSaid : Prop := coupleCutsUptoRow.holds Try.pinned (OpenSpec.upto coupleCutsSpec)

/-- 'ropewalklaw13.CoupleAll', WHERE WHAT IT READS IS OF BULK AT MOST 1048576: true; the input reads as it did. -/
def coupleAllUptoRow : OpenClaim := { program := "ytmbklkgaapncfaa", sum := "c5e9041628aefb063f535899d5aa959025dbeabdf383b829d1601d6d919438d8", func := "ropewalk/ropewalklaw13.CoupleAll", spec := "coupleAll", unfollowed := true, recurses := true, apart := false, narrowed := true }
def CoupleAllUptoSaid : Prop := coupleAllUptoRow.holds Try.pinned (OpenSpec.upto coupleAllSpec)

/-- 'ropewalklaw13.CoupleShares', WHERE WHAT IT READS IS OF BULK AT MOST 1048576: true; the input reads as it did. -/
def coupleSharesUptoRow : OpenClaim := { program := "ytmbklkgaapncfaa", sum := "c5e9041628aefb063f535899d5aa959025dbeabdf383b829d1601d6d919438d8", func := "ropewalk/ropewalklaw13.CoupleShares", spec := "coupleShares", unfollowed := true, recurses := true, apart := false, narrowed := true }
def CoupleSharesUptoSaid : Prop := coupleSharesUptoRow.holds Try.pinned (OpenSpec.upto coupleSharesSpec)

/-- 'ropewalklaw13.CoupleGrows', WHERE WHAT IT READS IS OF BULK AT MOST 1048576: true; the input reads as it did. -/
def coupleGrowsUptoRow : OpenClaim := { program := "ytmbklkgaapncfaa", sum := "c5e9041628aefb063f535899d5aa959025dbeabdf383b829d1601d6d919438d8", func := "ropewalk/ropewalklaw13.CoupleGrows", spec := "coupleGrows", unfollowed := true, recurses := true, apart := false, narrowed := true }
def CoupleGrowsUptoSaid : Prop := coupleGrowsUptoRow.holds Try.pinned (OpenSpec.upto coupleGrowsSpec)

/-- 'ropewalklaw13.CoupleReports', WHERE WHAT IT READS IS OF BULK AT MOST 1048576: true; the input reads as it did. -/
def coupleReportsUptoRow : OpenClaim := { program := "ytmbklkgaapncfaa", sum := "c5e9041628aefb063f535899d5aa959025dbeabdf383b829d1601d6d919438d8", func := "ropewalk/ropewalklaw13.CoupleReports", spec := "coupleReports", unfollowed := true, recurses := true, apart := false, narrowed := true }
def CoupleReportsUptoSaid : Prop := coupleReportsUptoRow.holds Try.pinned (OpenSpec.upto coupleReportsSpec)

/-- 'ropewalklaw13.CoupleOneMtu', WHERE WHAT IT READS IS OF BULK AT MOST 1048576: true; the input reads as it did. -/
def coupleOneMtuUptoRow : OpenClaim := { program := "ytmbklkgaapncfaa", sum := "c5e9041628aefb063f535899d5aa959025dbeabdf383b829d1601d6d919438d8", func := "ropewalk/ropewalklaw13.CoupleOneMtu", spec := "coupleOneMtu", unfollowed := true, recurses := true, apart := false, narrowed := true }
def CoupleOneMtuUptoSaid : Prop := coupleOneMtuUptoRow.holds Try.pinned (OpenSpec.upto coupleOneMtuSpec)

end Rows
end Go.Proofs.Ytmbklkgaapncfaa
