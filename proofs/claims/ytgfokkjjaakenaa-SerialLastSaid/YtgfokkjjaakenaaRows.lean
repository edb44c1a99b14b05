/-
  No cell of these rows narrows 'for every input' (looked for: loops, veiled, ifaces, maps, wideKeys, modest, calm, conditions, laid).
  DERIVED. THE GIVEN ROWS OF THIS SEAT. 9 by the template 'for every input the law returns true; each argument reads behind the call as it read before'; 0 by the template 'total and deterministic' (their statements: YtgfokkjjaakenaaTotals.lean).
  GIVEN WITH THE SEED: the statements are not yours to turn. If you find one false, say at which input.
  Laid BY PROGRAM, IN A SANDBOX (cutbox-rows.mjs): the forced cells as the released guide's own fill.sh prints them over the translation 2f10e102ae958cfd… (all of the seat's roots in one cut). By AI agents, Wed Nov 11 2026. No macro, syntax, notation, axiom, sorry.
-/
import Derived.Test.YtgfokkjjaakenaaChecked
import GoSem.Claim
import GoSem.ClaimJoined
import GoSem.ClaimMapViews
import Derived.JoinedTies
import Derived.KernelRfl
namespace Go.Proofs.Ytgfokkjjaakenaa
/- THE CELL 'sum', in the pinned program and in every row, IS THE sha256 OF THE DUMP (.gsa) THAT YtgfokkjjaakenaaProg.lean LOADS. Nothing in Lean hashes anything: it is a label: what it is worth is what the hold of that sum in a sandbox is worth. -/
noncomputable def Try.pinned : Pinned := { name := "ytgfokkjjaakenaa", sum := "2f10e102ae958cfd1200017c5d404b53adb628ce0dbe0d06632d6ed7dc134359", checked := Try.checked }
namespace Rows
def none {H : Type} : Left H := { results := [], args := [] }

/-- 'ropewalklaw01.SerialAdds': WHATEVER THE INPUT: true; the input reads as it did. -/
def serialAddsSpec : ChangeSpec := { name := "serialAdds", fn := fun _ => fun
  | [d1, d2] => { results := [.lit (.bool true)], args := [d1, d2] }
  | _ => none }
def serialAddsRow : OpenClaim := { program := "ytgfokkjjaakenaa", sum := "2f10e102ae958cfd1200017c5d404b53adb628ce0dbe0d06632d6ed7dc134359", func := "ropewalk/ropewalklaw01.SerialAdds", spec := "serialAdds", apart := false }
def SerialAddsSaid : Prop := serialAddsRow.holds Try.pinned (OpenSpec.ofChange serialAddsSpec)

/-- ITS FALSE NEIGHBOUR: 'it returns false'. Refute it at one input. -/
def serialAddsWrong : ChangeSpec := { name := "serialAdds", fn := fun _ => fun
  | [d1, d2] => { results := [.lit (.bool false)], args := [d1, d2] }
  | _ => none }
def SerialAddsWrongFalsely : Prop := serialAddsRow.holds Try.pinned (OpenSpec.ofChange serialAddsWrong)

/-- 'ropewalklaw01.SerialWithin': WHATEVER THE INPUT: true; the input reads as it did. -/
def serialWithinSpec : ChangeSpec := { name := "serialWithin", fn := fun _ => fun
  | [d1, d2, d3] => { results := [.lit (.bool true)], args := [d1, d2, d3] }
  | _ => none }
def serialWithinRow : OpenClaim := { program := "ytgfokkjjaakenaa", sum := "2f10e102ae958cfd1200017c5d404b53adb628ce0dbe0d06632d6ed7dc134359", func := "ropewalk/ropewalklaw01.SerialWithin", spec := "serialWithin", apart := false }
def SerialWithinSaid : Prop := serialWithinRow.holds Try.pinned (OpenSpec.ofChange serialWithinSpec)

/-- ITS FALSE NEIGHBOUR: 'it returns false'. Refute it at one input. -/
def serialWithinWrong : ChangeSpec := { name := "serialWithin", fn := fun _ => fun
  | [d1, d2, d3] => { results := [.lit (.bool false)], args := [d1, d2, d3] }
  | _ => none }
def SerialWithinWrongFalsely : Prop := serialWithinRow.holds Try.pinned (OpenSpec.ofChange serialWithinWrong)

/-- 'ropewalklaw01.SerialLess': WHATEVER THE INPUT: true; the input reads as it did. -/
def serialLessSpec : ChangeSpec := { name := "serialLess", fn := fun _ => fun
  | [d1, d2] => { results := [.lit (.bool true)], args := [d1, d2] }
  | _ => none }
def serialLessRow : OpenClaim := { program := "ytgfokkjjaakenaa", sum := "2f10e102ae958cfd1200017c5d404b53adb628ce0dbe0d06632d6ed7dc134359", func := "ropewalk/ropewalklaw01.SerialLess", spec := "serialLess", apart := false }
def SerialLessSaid : Prop := serialLessRow.holds Try.pinned (OpenSpec.ofChange serialLessSpec)

/-- ITS FALSE NEIGHBOUR: 'it returns false'. Refute it at one input. -/
def serialLessWrong : ChangeSpec := { name := "serialLess", fn := fun _ => fun
  | [d1, d2] => { results := [.lit (.bool false)], args := [d1, d2] }
  | _ => none }
def SerialLessWrongFalsely : Prop := serialLessRow.holds Try.pinned (OpenSpec.ofChange serialLessWrong)

/-- 'ropewalklaw01.SerialDiffs': WHATEVER THE INPUT: true; the input reads as it did. -/
def serialDiffsSpec : ChangeSpec := { name := "serialDiffs", fn := fun _ => fun
  | [d1, d2] => { results := [.lit (.bool true)], args := [d1, d2] }
  | _ => none }
def serialDiffsRow : OpenClaim := { program := "ytgfokkjjaakenaa", sum := "2f10e102ae958cfd1200017c5d404b53adb628ce0dbe0d06632d6ed7dc134359", func := "ropewalk/ropewalklaw01.SerialDiffs", spec := "serialDiffs", apart := false }
def SerialDiffsSaid : Prop := serialDiffsRow.holds Try.pinned (OpenSpec.ofChange serialDiffsSpec)

/-- ITS FALSE NEIGHBOUR: 'it returns false'. Refute it at one input. -/
def serialDiffsWrong : ChangeSpec := { name := "serialDiffs", fn := fun _ => fun
  | [d1, d2] => { results := [.lit (.bool false)], args := [d1, d2] }
  | _ => none }
def SerialDiffsWrongFalsely : Prop := serialDiffsRow.holds Try.pinned (OpenSpec.ofChange serialDiffsWrong)

/-- 'ropewalklaw01.SerialOne': WHATEVER THE INPUT: true; the input reads as it did. -/
def serialOneSpec : ChangeSpec := { name := "serialOne", fn := fun _ => fun
  | [d1, d2] => { results := [.lit (.bool true)], args := [d1, d2] }
  | _ => none }
def serialOneRow : OpenClaim := { program := "ytgfokkjjaakenaa", sum := "2f10e102ae958cfd1200017c5d404b53adb628ce0dbe0d06632d6ed7dc134359", func := "ropewalk/ropewalklaw01.SerialOne", spec := "serialOne", apart := false }
def SerialOneSaid : Prop := serialOneRow.holds Try.pinned (OpenSpec.ofChange serialOneSpec)

/-- ITS FALSE NEIGHBOUR: 'it returns false'. Refute it at one input. -/
def serialOneWrong : ChangeSpec := { name := "serialOne", fn := fun _ => fun
  | [d1, d2] => { results := [.lit (.bool false)], args := [d1, d2] }
  | _ => none }
def SerialOneWrongFalsely : Prop := serialOneRow.holds Try.pinned (OpenSpec.ofChange serialOneWrong)

/-- 'ropewalklaw01.SerialShort': WHATEVER THE INPUT: true; the input reads as it did. -/
def serialShortSpec : ChangeSpec := { name := "serialShort", fn := fun _ => fun
  | [d1, d2] => { results := [.lit (.bool true)], args := [d1, d2] }
  | _ => none }
def serialShortRow : OpenClaim := { program := "ytgfokkjjaakenaa", sum := "2f10e102ae958cfd1200017c5d404b53adb628ce0dbe0d06632d6ed7dc134359", func := "ropewalk/ropewalklaw01.SerialShort", spec := "serialShort", apart := false }
def SerialShortSaid : Prop := serialShortRow.holds Try.pinned (OpenSpec.ofChange serialShortSpec)

/-- ITS FALSE NEIGHBOUR: 'it returns false'. Refute it at one input. -/
def serialShortWrong : ChangeSpec := { name := "serialShort", fn := fun _ => fun
  | [d1, d2] => { results := [.lit (.bool false)], args := [d1, d2] }
  | _ => none }
def SerialShortWrongFalsely : Prop := serialShortRow.holds Try.pinned (OpenSpec.ofChange serialShortWrong)

/-- 'ropewalklaw01.SerialFurther': WHATEVER THE INPUT: true; the input reads as it did. -/
def serialFurtherSpec : ChangeSpec := { name := "serialFurther", fn := fun _ => fun
  | [d1, d2] => { results := [.lit (.bool true)], args := [d1, d2] }
  | _ => none }
def serialFurtherRow : OpenClaim := { program := "ytgfokkjjaakenaa", sum := "2f10e102ae958cfd1200017c5d404b53adb628ce0dbe0d06632d6ed7dc134359", func := "ropewalk/ropewalklaw01.SerialFurther", spec := "serialFurther", apart := false }
def SerialFurtherSaid : Prop := serialFurtherRow.holds Try.pinned (OpenSpec.ofChange serialFurtherSpec)

/-- ITS FALSE NEIGHBOUR: 'it returns false'. Refute it at one input. -/
def serialFurtherWrong : ChangeSpec := { name := "serialFurther", fn := fun _ => fun
  | [d1, d2] => { results := [.lit (.bool false)], args := [d1, d2] }
  | _ => none }
def SerialFurtherWrongFalsely : Prop := serialFurtherRow.holds Try.pinned (OpenSpec.ofChange serialFurtherWrong)

/-- 'ropewalklaw01.SerialMoved': WHATEVER THE INPUT: true; the input reads as it did. -/
def serialMovedSpec : ChangeSpec := { name := "serialMoved", fn := fun _ => fun
  | [d1, d2, d3] => { results := [.lit (.bool true)], args := [d1, d2, d3] }
  | _ => none }
def serialMovedRow : OpenClaim := { program := "ytgfokkjjaakenaa", sum := "2f10e102ae958cfd1200017c5d404b53adb628ce0dbe0d06632d6ed7dc134359", func := "ropewalk/ropewalklaw01.SerialMoved", spec := "serialMoved", apart := false }
def SerialMovedSaid : Prop := serialMovedRow.holds Try.pinned (OpenSpec.ofChange serialMovedSpec)

/-- ITS FALSE NEIGHBOUR: 'it returns false'. Refute it at one input. -/
def serialMovedWrong : ChangeSpec := { name := "serialMoved", fn := fun _ => fun
  | [d1, d2, d3] => { results := [.lit (.bool false)], args := [d1, d2, d3] }
  | _ => none }
def SerialMovedWrongFalsely : Prop := serialMovedRow.holds Try.pinned (OpenSpec.ofChange serialMovedWrong)

/-- 'ropewalklaw01.SerialLast': WHATEVER THE INPUT: true; the input reads as it did. -/
def serialLastSpec : ChangeSpec := { name := "serialLast", fn := fun _ => fun
  | [d1, d2] => { results := [.lit (.bool true)], args := [d1, d2] }
  | _ => none }
def serialLastRow : OpenClaim := { program := "ytgfokkjjaakenaa", sum := "2f10e102ae958cfd1200017c5d404b53adb628ce0dbe0d06632d6ed7dc134359", func := "ropewalk/ropewalklaw01.SerialLast", spec := "serialLast", apart := false }
def SerialLastSaid : Prop := serialLastRow.holds Try.pinned (OpenSpec.ofChange serialLastSpec)

/-- ITS FALSE NEIGHBOUR: 'it returns false'. Refute it at one input. -/
def serialLastWrong : ChangeSpec := { name := "serialLast", fn := fun _ => fun
  | [d1, d2] => { results := [.lit (.bool false)], args := [d1, d2] }
  | _ => none }
def SerialLastWrongFalsely : Prop := serialLastRow.holds Try.pinned (OpenSpec.ofChange serialLastWrong)

/- THE SECOND FORM. 'bulk': how many values and letters a reading holds, each counted each time it is reached (what is shared counts as often as it is met; a slice's spare places count too). A statement '..UptoSaid' is the law's where the arguments, and the package variables that the reading takes, are together of bulk at most 1048576: NARROWER than '..Said'. Prove '..Said' where nothing that the law and all that it calls make is longer than what came in: it says more and counts as full. Else prove '..UptoSaid'. A law counts once. -/
mutual
def uptoBulk {H : Type} : DataW H → Nat
  | .lit (.string bytes) => bytes.length + 1
  | .lit _ => 1
  | .nil => 1
  | .ptr d => uptoBulk d + 1
  | .slice elems spare => uptoBulkAll elems + uptoBulkAll spare + 1
  | .agg parts => uptoBulkAll parts + 1
  | .iface _ d => uptoBulk d + 1
  | .map entries => uptoBulkEntries entries + 1
  | .held _ => 1
def uptoBulkAll {H : Type} : List (DataW H) → Nat
  | [] => 0
  | d :: r => uptoBulk d + uptoBulkAll r
def uptoBulkEntries {H : Type} : List (Lit × DataW H) → Nat
  | [] => 0
  | x :: r => uptoBulkEntry x + uptoBulkEntries r
def uptoBulkEntry {H : Type} : Lit × DataW H → Nat
  | (.string bytes, d) => bytes.length + uptoBulk d + 1
  | (_, d) => uptoBulk d + 1
 end
def uptoSmall : (H : Type) → List (DataW H) → Bool := fun _ ds => decide (uptoBulkAll ds ≤ 1048576)
def OpenSpec.upto (s : _root_.Go.ChangeSpec) : _root_.Go.OpenSpec := { _root_.Go.OpenSpec.ofChange s with cond := some uptoSmall }

/-- 'ropewalklaw01.SerialAdds', WHERE WHAT IT READS IS OF BULK AT MOST 1048576: true; the input reads as it did. -/
def serialAddsUptoRow : OpenClaim := { program := "ytgfokkjjaakenaa", sum := "2f10e102ae958cfd1200017c5d404b53adb628ce0dbe0d06632d6ed7dc134359", func := "ropewalk/ropewalklaw01.SerialAdds", spec := "serialAdds", apart := false, narrowed := true }
def SerialAddsUptoSaid : Prop := serialAddsUptoRow.holds Try.pinned (OpenSpec.upto serialAddsSpec)

/-- 'ropewalklaw01.SerialWithin', WHERE WHAT IT READS IS OF BULK AT MOST 1048576: true; the input reads as it did. -/
def serialWithinUptoRow : OpenClaim := { program := "ytgfokkjjaakenaa", sum := "2f10e102ae958cfd1200017c5d404b53adb628ce0dbe0d06632d6ed7dc134359", func := "ropewalk/ropewalklaw01.SerialWithin", spec := "serialWithin", apart := false, narrowed := true }
def SerialWithinUptoSaid : Prop := serialWithinUptoRow.holds Try.pinned (OpenSpec.upto serialWithinSpec)

/-- 'ropewalklaw01.SerialLess', WHERE WHAT IT READS IS OF BULK AT MOST 1048576: true; the input reads as it did. -/
def serialLessUptoRow : OpenClaim := { program := "ytgfokkjjaakenaa", sum := "2f10e102ae958cfd1200017c5d404b53adb628ce0dbe0d06632d6ed7dc134359", func := "ropewalk/ropewalklaw01.SerialLess", spec := "serialLess", apart := false, narrowed := true }
def SerialLessUptoSaid : Prop := serialLessUptoRow.holds Try.pinned (OpenSpec.upto serialLessSpec)

/-- 'ropewalklaw01.SerialDiffs', WHERE WHAT IT READS IS OF BULK AT MOST 1048576: true; the input reads as it did. -/
def serialDiffsUptoRow : OpenClaim := { program := "ytgfokkjjaakenaa", sum := "2f10e102ae958cfd1200017c5d404b53adb628ce0dbe0d06632d6ed7dc134359", func := "ropewalk/ropewalklaw01.SerialDiffs", spec := "serialDiffs", apart := false, narrowed := true }
def SerialDiffsUptoSaid : Prop := serialDiffsUptoRow.holds Try.pinned (OpenSpec.upto serialDiffsSpec)

/-- 'ropewalklaw01.SerialOne', WHERE WHAT IT READS IS OF BULK AT MOST 1048576: true; the input reads as it did. -/
def serialOneUptoRow : OpenClaim := { program := "ytgfokkjjaakenaa", sum := "2f10e102ae958cfd1200017c5d404b53adb628ce0dbe0d06632d6ed7dc134359", func := "ropewalk/ropewalklaw01.SerialOne", spec := "serialOne", apart := false, narrowed := true }
def SerialOneUptoSaid : Prop := serialOneUptoRow.holds Try.pinned (OpenSpec.upto serialOneSpec)

/-- 'ropewalklaw01.SerialShort', WHERE WHAT IT READS IS OF BULK AT MOST 1048576: true; the input reads as it did. -/
def serialShortUptoRow : OpenClaim := { program := "ytgfokkjjaakenaa", sum := "2f10e102ae958cfd1200017c5d404b53adb628ce0dbe0d06632d6ed7dc134359", func := "ropewalk/ropewalklaw01.SerialShort", spec := "serialShort", apart := false, narrowed := true }
def SerialShortUptoSaid : Prop := serialShortUptoRow.holds Try.pinned (OpenSpec.upto serialShortSpec)

/-- 'ropewalklaw01.SerialFurther', WHERE WHAT IT READS IS OF BULK AT MOST 1048576: true; the input reads as it did. -/
def serialFurtherUptoRow : OpenClaim := { program := "ytgfokkjjaakenaa", sum := "2f10e102ae958cfd1200017c5d404b53adb628ce0dbe0d06632d6ed7dc134359", func := "ropewalk/ropewalklaw01.SerialFurther", spec := "serialFurther", apart := false, narrowed := true }
def SerialFurtherUptoSaid : Prop := serialFurtherUptoRow.holds Try.pinned (OpenSpec.upto serialFurtherSpec)

/-- 'ropewalklaw01.SerialMoved', WHERE WHAT IT READS IS OF BULK AT MOST 1048576: true; the input reads as it did. -/
def serialMovedUptoRow : OpenClaim := { program := "ytgfokkjjaakenaa", sum := "2f10e102ae958cfd1200017c5d404b53adb628ce0dbe0d06632d6ed7dc134359", func := "ropewalk/ropewalklaw01.SerialMoved", spec := "serialMoved", apart := false, narrowed := true }
def SerialMovedUptoSaid : Prop := serialMovedUptoRow.holds Try.pinned (OpenSpec.upto serialMovedSpec)

/-- 'ropewalklaw01.SerialLast', WHERE WHAT IT READS IS OF BULK AT MOST 1048576: true; the input reads as it did. -/
def serialLastUptoRow : OpenClaim := { program := "ytgfokkjjaakenaa", sum := "2f10e102ae958cfd1200017c5d404b53adb628ce0dbe0d06632d6ed7dc134359", func := "ropewalk/ropewalklaw01.SerialLast", spec := "serialLast", apart := false, narrowed := true }
def SerialLastUptoSaid : Prop := serialLastUptoRow.holds Try.pinned (OpenSpec.upto serialLastSpec)

end Rows
end Go.Proofs.Ytgfokkjjaakenaa
