/-
  No cell of these rows narrows 'for every input' (looked for: loops, veiled, ifaces, maps, wideKeys, modest, calm, conditions, laid).
  DERIVED. THE GIVEN ROWS OF THIS SEAT. 5 by the template 'for every input the law returns true; each argument reads behind the call as it read before'; 0 by the template 'total and deterministic' (their statements: YtbcmgchclkjgeaaTotals.lean).
  GIVEN WITH THE SEED: the statements are not yours to turn. If you find one false, say at which input.
  Laid BY PROGRAM, IN A SANDBOX (cutbox-rows.mjs): the forced cells as the released guide's own fill.sh prints them over the translation 3b44756f1b631bf4… (all of the seat's roots in one cut). By AI agents, Wed Nov 11 2026. No macro, syntax, notation, axiom, sorry.
-/
import Derived.Test.YtbcmgchclkjgeaaChecked
import GoSem.Claim
import GoSem.ClaimJoined
import GoSem.ClaimMapViews
import Derived.JoinedTies
import Derived.KernelRfl
namespace Go.Proofs.Ytbcmgchclkjgeaa
/- THE CELL 'sum', in the pinned program and in every row, IS THE sha256 OF THE DUMP (.gsa) THAT YtbcmgchclkjgeaaProg.lean LOADS. Nothing in Lean hashes anything: it is a label: what it is worth is what the hold of that sum in a sandbox is worth. -/
noncomputable def Try.pinned : Pinned := { name := "ytbcmgchclkjgeaa", sum := "3b44756f1b631bf4fadce6fd8a0c24900843bbe47c77be6a5f011b51a1a6a023", checked := Try.checked }
namespace Rows
def none {H : Type} : Left H := { results := [], args := [] }

/-- 'ropewalklaw14.SplitWhole': WHATEVER THE INPUT: true; the input reads as it did. -/
def splitWholeSpec : ChangeSpec := { name := "splitWhole", fn := fun _ => fun
  | [d] => { results := [.lit (.bool true)], args := [d] }
  | _ => none }
def splitWholeRow : OpenClaim := { program := "ytbcmgchclkjgeaa", sum := "3b44756f1b631bf4fadce6fd8a0c24900843bbe47c77be6a5f011b51a1a6a023", func := "ropewalk/ropewalklaw14.SplitWhole", spec := "splitWhole", unfollowed := true, recurses := true, apart := false }
def SplitWholeSaid : Prop := splitWholeRow.holds Try.pinned (OpenSpec.ofChange splitWholeSpec)

/-- ITS FALSE NEIGHBOUR: 'it returns false'. Refute it at one input. -/
def splitWholeWrong : ChangeSpec := { name := "splitWhole", fn := fun _ => fun
  | [d] => { results := [.lit (.bool false)], args := [d] }
  | _ => none }
def SplitWholeWrongFalsely : Prop := splitWholeRow.holds Try.pinned (OpenSpec.ofChange splitWholeWrong)

/-- 'ropewalklaw14.SplitApart': WHATEVER THE INPUT: true; the input reads as it did. -/
def splitApartSpec : ChangeSpec := { name := "splitApart", fn := fun _ => fun
  | [d1, d2, d3, d4] => { results := [.lit (.bool true)], args := [d1, d2, d3, d4] }
  | _ => none }
def splitApartRow : OpenClaim := { program := "ytbcmgchclkjgeaa", sum := "3b44756f1b631bf4fadce6fd8a0c24900843bbe47c77be6a5f011b51a1a6a023", func := "ropewalk/ropewalklaw14.SplitApart", spec := "splitApart", unfollowed := true, recurses := true, apart := false }
def SplitApartSaid : Prop := splitApartRow.holds Try.pinned (OpenSpec.ofChange splitApartSpec)

/-- ITS FALSE NEIGHBOUR: 'it returns false'. Refute it at one input. -/
def splitApartWrong : ChangeSpec := { name := "splitApart", fn := fun _ => fun
  | [d1, d2, d3, d4] => { results := [.lit (.bool false)], args := [d1, d2, d3, d4] }
  | _ => none }
def SplitApartWrongFalsely : Prop := splitApartRow.holds Try.pinned (OpenSpec.ofChange splitApartWrong)

/-- 'ropewalklaw14.SplitShares': WHATEVER THE INPUT: true; the input reads as it did. -/
def splitSharesSpec : ChangeSpec := { name := "splitShares", fn := fun _ => fun
  | [d1, d2, d3] => { results := [.lit (.bool true)], args := [d1, d2, d3] }
  | _ => none }
def splitSharesRow : OpenClaim := { program := "ytbcmgchclkjgeaa", sum := "3b44756f1b631bf4fadce6fd8a0c24900843bbe47c77be6a5f011b51a1a6a023", func := "ropewalk/ropewalklaw14.SplitShares", spec := "splitShares", unfollowed := true, recurses := true, apart := false }
def SplitSharesSaid : Prop := splitSharesRow.holds Try.pinned (OpenSpec.ofChange splitSharesSpec)

/-- ITS FALSE NEIGHBOUR: 'it returns false'. Refute it at one input. -/
def splitSharesWrong : ChangeSpec := { name := "splitShares", fn := fun _ => fun
  | [d1, d2, d3] => { results := [.lit (.bool false)], args := [d1, d2, d3] }
  | _ => none }
def SplitSharesWrongFalsely : Prop := splitSharesRow.holds Try.pinned (OpenSpec.ofChange splitSharesWrong)

/-- 'ropewalklaw14.SplitPuts': WHATEVER THE INPUT: true; the input reads as it did. -/
def splitPutsSpec : ChangeSpec := { name := "splitPuts", fn := fun _ => fun
  | [d1, d2, d3, d4] => { results := [.lit (.bool true)], args := [d1, d2, d3, d4] }
  | _ => none }
def splitPutsRow : OpenClaim := { program := "ytbcmgchclkjgeaa", sum := "3b44756f1b631bf4fadce6fd8a0c24900843bbe47c77be6a5f011b51a1a6a023", func := "ropewalk/ropewalklaw14.SplitPuts", spec := "splitPuts", unfollowed := true, recurses := true, apart := false }
def SplitPutsSaid : Prop := splitPutsRow.holds Try.pinned (OpenSpec.ofChange splitPutsSpec)

/-- ITS FALSE NEIGHBOUR: 'it returns false'. Refute it at one input. -/
def splitPutsWrong : ChangeSpec := { name := "splitPuts", fn := fun _ => fun
  | [d1, d2, d3, d4] => { results := [.lit (.bool false)], args := [d1, d2, d3, d4] }
  | _ => none }
def SplitPutsWrongFalsely : Prop := splitPutsRow.holds Try.pinned (OpenSpec.ofChange splitPutsWrong)

/-- 'ropewalklaw14.SplitBounds': WHATEVER THE INPUT: true; the input reads as it did. -/
def splitBoundsSpec : ChangeSpec := { name := "splitBounds", fn := fun _ => fun
  | [d1, d2] => { results := [.lit (.bool true)], args := [d1, d2] }
  | _ => none }
def splitBoundsRow : OpenClaim := { program := "ytbcmgchclkjgeaa", sum := "3b44756f1b631bf4fadce6fd8a0c24900843bbe47c77be6a5f011b51a1a6a023", func := "ropewalk/ropewalklaw14.SplitBounds", spec := "splitBounds", unfollowed := true, recurses := true, apart := false }
def SplitBoundsSaid : Prop := splitBoundsRow.holds Try.pinned (OpenSpec.ofChange splitBoundsSpec)

/-- ITS FALSE NEIGHBOUR: 'it returns false'. Refute it at one input. -/
def splitBoundsWrong : ChangeSpec := { name := "splitBounds", fn := fun _ => fun
  | [d1, d2] => { results := [.lit (.bool false)], args := [d1, d2] }
  | _ => none }
def SplitBoundsWrongFalsely : Prop := splitBoundsRow.holds Try.pinned (OpenSpec.ofChange splitBoundsWrong)

/- THE SECOND FORM. 'bulk': how many values and letters a reading holds, each counted each time it is reached (what is shared counts as often as it is met; a slice's spare places count too). A statement '..UptoSaid' is the law's where the arguments, and the package variables that the reading takes, are together of bulk at most 1048576: NARROWER than '..Said'. Prove '..Said' where nothing that the law and all that it calls make is longer than what came in: it says more and counts as full. Else prove '..UptoSaid'. A law counts once. -/
mutual
def uptoBulk {H : Type} : DataW H → Nat
  | .lit (.string bytes) => bytes.length + 1
  | .lit _ => 1
  | .nil => 1
  | .ptr d => uptoBulk d + 1
  | .slice elems spare => uptoBulkAll elems + uptoBulkAll spare + 1
  | .agg parts => uptoBulkAll parts + 1
  | .iface _ d => uptoBulk d + 1
  | .map entries => uptoBulkEntries entries + 1
  | .held _ => 1
def uptoBulkAll {H : Type} : List (DataW H) → Nat
  | [] => 0
  | d :: r => uptoBulk d + uptoBulkAll r
def uptoBulkEntries {H : Type} : List (Lit × DataW H) → Nat
  | [] => 0
  | x :: r => uptoBulkEntry x + uptoBulkEntries r
def uptoBulkEntry {H : Type} : Lit × DataW H → Nat
  | (.string bytes, d) => bytes.length + uptoBulk d + 1
  | (_, d) => uptoBulk d + 1
 end
def uptoSmall : (H : Type) → List (DataW H) → Bool := fun _ ds => decide (uptoBulkAll ds ≤ 1048576)
def OpenSpec.upto (s : _root_.Go.ChangeSpec) : _root_.Go.OpenSpec := { _root_.Go.OpenSpec.ofChange s with cond := some uptoSmall }

/-- 'ropewalklaw14.SplitWhole', WHERE WHAT IT READS IS OF BULK AT MOST 1048576: true; the input reads as it did. -/
def splitWholeUptoRow : OpenClaim := { program := "ytbcmgchclkjgeaa", sum := "3b44756f1b631bf4fadce6fd8a0c24900843bbe47c77be6a5f011b51a1a6a023", func := "ropewalk/ropewalklaw14.SplitWhole", spec := "splitWhole", unfollowed := true, recurses := true, apart := false, narrowed := true }
def SplitWholeUptoSaid : Prop := splitWholeUptoRow.holds Try.pinned (OpenSpec.upto splitWholeSpec)

/-- 'ropewalklaw14.SplitApart', WHERE WHAT IT READS IS OF BULK AT MOST 1048576: true; the input reads as it did. -/
def splitApartUptoRow : OpenClaim := { program := "ytbcmgchclkjgeaa", sum := "3b44756f1b631bf4fadce6fd8a0c24900843bbe47c77be6a5f011b51a1a6a023", func := "ropewalk/ropewalklaw14.SplitApart", spec := "splitApart", unfollowed := true, recurses := true, apart := false, narrowed := true }
def SplitApartUptoSaid : Prop := splitApartUptoRow.holds Try.pinned (OpenSpec.upto splitApartSpec)

/-- 'ropewalklaw14.SplitShares', WHERE WHAT IT READS IS OF BULK AT MOST 1048576: true; the input reads as it did. -/
def splitSharesUptoRow : OpenClaim := { program := "ytbcmgchclkjgeaa", sum := "3b44756f1b631bf4fadce6fd8a0c24900843bbe47c77be6a5f011b51a1a6a023", func := "ropewalk/ropewalklaw14.SplitShares", spec := "splitShares", unfollowed := true, recurses := true, apart := false, narrowed := true }
def SplitSharesUptoSaid : Prop := splitSharesUptoRow.holds Try.pinned (OpenSpec.upto splitSharesSpec)

/-- 'ropewalklaw14.SplitPuts', WHERE WHAT IT READS IS OF BULK AT MOST 1048576: true; the input reads as it did. -/
def splitPutsUptoRow : OpenClaim := { program := "ytbcmgchclkjgeaa", sum := "3b44756f1b631bf4fadce6fd8a0c24900843bbe47c77be6a5f011b51a1a6a023", func := "ropewalk/ropewalklaw14.SplitPuts", spec := "splitPuts", unfollowed := true, recurses := true, apart := false, narrowed := true }
def SplitPutsUptoSaid : Prop := splitPutsUptoRow.holds Try.pinned (OpenSpec.upto splitPutsSpec)

/-- 'ropewalklaw14.SplitBounds', WHERE WHAT IT READS IS OF BULK AT MOST 1048576: true; the input reads as it did. -/
def splitBoundsUptoRow : OpenClaim := { program := "ytbcmgchclkjgeaa", sum := "3b44756f1b631bf4fadce6fd8a0c24900843bbe47c77be6a5f011b51a1a6a023", func := "ropewalk/ropewalklaw14.SplitBounds", spec := "splitBounds", unfollowed := true, recurses := true, apart := false, narrowed := true }
def SplitBoundsUptoSaid : Prop := splitBoundsUptoRow.holds Try.pinned (OpenSpec.upto splitBoundsSpec)

end Rows
end Go.Proofs.Ytbcmgchclkjgeaa
