/-
  No cell of these rows narrows 'for every input' (looked for: loops, veiled, ifaces, maps, wideKeys, modest, calm, conditions, laid).
  DERIVED. THE GIVEN ROWS OF THIS SEAT. 4 by the template 'for every input the law returns true; each argument reads behind the call as it read before'; 0 by the template 'total and deterministic' (their statements: YtkibogmplimegaaTotals.lean).
  GIVEN WITH THE SEED: the statements are not yours to turn. If you find one false, say at which input.
  Laid BY PROGRAM, IN A SANDBOX (cutbox-rows.mjs): the forced cells as the released guide's own fill.sh prints them over the translation 1f90718da1450c38… (all of the seat's roots in one cut). By AI agents, Wed Nov 11 2026. No macro, syntax, notation, axiom, sorry.
-/
import Derived.Test.YtkibogmplimegaaChecked
import GoSem.Claim
import GoSem.ClaimJoined
import GoSem.ClaimMapViews
import Derived.JoinedTies
import Derived.KernelRfl
namespace Go.Proofs.Ytkibogmplimegaa
/- THE CELL 'sum', in the pinned program and in every row, IS THE sha256 OF THE DUMP (.gsa) THAT YtkibogmplimegaaProg.lean LOADS. Nothing in Lean hashes anything: it is a label: what it is worth is what the hold of that sum in a sandbox is worth. -/
noncomputable def Try.pinned : Pinned := { name := "ytkibogmplimegaa", sum := "1f90718da1450c389a356fbe4b36b7238d69410e27bb0922196b52c648e8572e", checked := Try.checked }
namespace Rows
def none {H : Type} : Left H := { results := [], args := [] }

/-- 'ropewalklaw10.RtoSettles': WHATEVER THE INPUT: true; the input reads as it did. -/
def rtoSettlesSpec : ChangeSpec := { name := "rtoSettles", fn := fun _ => fun
  | [d1, d2, d3] => { results := [.lit (.bool true)], args := [d1, d2, d3] }
  | _ => none }
def rtoSettlesRow : OpenClaim := { program := "ytkibogmplimegaa", sum := "1f90718da1450c389a356fbe4b36b7238d69410e27bb0922196b52c648e8572e", func := "ropewalk/ropewalklaw10.RtoSettles", spec := "rtoSettles", apart := false }
def RtoSettlesSaid : Prop := rtoSettlesRow.holds Try.pinned (OpenSpec.ofChange rtoSettlesSpec)

/-- ITS FALSE NEIGHBOUR: 'it returns false'. Refute it at one input. -/
def rtoSettlesWrong : ChangeSpec := { name := "rtoSettles", fn := fun _ => fun
  | [d1, d2, d3] => { results := [.lit (.bool false)], args := [d1, d2, d3] }
  | _ => none }
def RtoSettlesWrongFalsely : Prop := rtoSettlesRow.holds Try.pinned (OpenSpec.ofChange rtoSettlesWrong)

/-- 'ropewalklaw10.RtoMay': WHATEVER THE INPUT: true; the input reads as it did. -/
def rtoMaySpec : ChangeSpec := { name := "rtoMay", fn := fun _ => fun
  | [d1, d2, d3] => { results := [.lit (.bool true)], args := [d1, d2, d3] }
  | _ => none }
def rtoMayRow : OpenClaim := { program := "ytkibogmplimegaa", sum := "1f90718da1450c389a356fbe4b36b7238d69410e27bb0922196b52c648e8572e", func := "ropewalk/ropewalklaw10.RtoMay", spec := "rtoMay", apart := false }
def RtoMaySaid : Prop := rtoMayRow.holds Try.pinned (OpenSpec.ofChange rtoMaySpec)

/-- ITS FALSE NEIGHBOUR: 'it returns false'. Refute it at one input. -/
def rtoMayWrong : ChangeSpec := { name := "rtoMay", fn := fun _ => fun
  | [d1, d2, d3] => { results := [.lit (.bool false)], args := [d1, d2, d3] }
  | _ => none }
def RtoMayWrongFalsely : Prop := rtoMayRow.holds Try.pinned (OpenSpec.ofChange rtoMayWrong)

/-- 'ropewalklaw10.RtoDoubles': WHATEVER THE INPUT: true; the input reads as it did. -/
def rtoDoublesSpec : ChangeSpec := { name := "rtoDoubles", fn := fun _ => fun
  | [d1, d2, d3, d4] => { results := [.lit (.bool true)], args := [d1, d2, d3, d4] }
  | _ => none }
def rtoDoublesRow : OpenClaim := { program := "ytkibogmplimegaa", sum := "1f90718da1450c389a356fbe4b36b7238d69410e27bb0922196b52c648e8572e", func := "ropewalk/ropewalklaw10.RtoDoubles", spec := "rtoDoubles", apart := false }
def RtoDoublesSaid : Prop := rtoDoublesRow.holds Try.pinned (OpenSpec.ofChange rtoDoublesSpec)

/-- ITS FALSE NEIGHBOUR: 'it returns false'. Refute it at one input. -/
def rtoDoublesWrong : ChangeSpec := { name := "rtoDoubles", fn := fun _ => fun
  | [d1, d2, d3, d4] => { results := [.lit (.bool false)], args := [d1, d2, d3, d4] }
  | _ => none }
def RtoDoublesWrongFalsely : Prop := rtoDoublesRow.holds Try.pinned (OpenSpec.ofChange rtoDoublesWrong)

/-- 'ropewalklaw10.RtoSteps': WHATEVER THE INPUT: true; the input reads as it did. -/
def rtoStepsSpec : ChangeSpec := { name := "rtoSteps", fn := fun _ => fun
  | [d1, d2, d3] => { results := [.lit (.bool true)], args := [d1, d2, d3] }
  | _ => none }
def rtoStepsRow : OpenClaim := { program := "ytkibogmplimegaa", sum := "1f90718da1450c389a356fbe4b36b7238d69410e27bb0922196b52c648e8572e", func := "ropewalk/ropewalklaw10.RtoSteps", spec := "rtoSteps", apart := false }
def RtoStepsSaid : Prop := rtoStepsRow.holds Try.pinned (OpenSpec.ofChange rtoStepsSpec)

/-- ITS FALSE NEIGHBOUR: 'it returns false'. Refute it at one input. -/
def rtoStepsWrong : ChangeSpec := { name := "rtoSteps", fn := fun _ => fun
  | [d1, d2, d3] => { results := [.lit (.bool false)], args := [d1, d2, d3] }
  | _ => none }
def RtoStepsWrongFalsely : Prop := rtoStepsRow.holds Try.pinned (OpenSpec.ofChange rtoStepsWrong)

/- THE SECOND FORM. 'bulk': how many values and letters a reading holds, each counted each time it is reached (what is shared counts as often as it is met; a slice's spare places count too). A statement '..UptoSaid' is the law's where the arguments, and the package variables that the reading takes, are together of bulk at most 1048576: NARROWER than '..Said'. Prove '..Said' where nothing that the law and all that it calls make is longer than what came in: it says more and counts as full. Else prove '..UptoSaid'. A law counts once. -/
mutual
def uptoBulk {H : Type} : DataW H → Nat
  | .lit (.string bytes) => bytes.length + 1
  | .lit _ => 1
  | .nil => 1
  | .ptr d => uptoBulk d + 1
  | .slice elems spare => uptoBulkAll elems + uptoBulkAll spare + 1
  | .agg parts => uptoBulkAll parts + 1
  | .iface _ d => uptoBulk d + 1
  | .map entries => uptoBulkEntries entries + 1
  | .held _ => 1
def uptoBulkAll {H : Type} : List (DataW H) → Nat
  | [] => 0
  | d :: r => uptoBulk d + uptoBulkAll r
def uptoBulkEntries {H : Type} : List (Lit × DataW H) → Nat
  | [] => 0
  | x :: r => uptoBulkEntry x + uptoBulkEntries r
def uptoBulkEntry {H : Type} : Lit × DataW H → Nat
  | (.string bytes, d) => bytes.length + uptoBulk d + 1
  | (_, d) => uptoBulk d + 1
 end
def uptoSmall : (H : Type) → List (DataW H) → Bool := fun _ ds => decide (uptoBulkAll ds ≤ 1048576)
def OpenSpec.upto (s : _root_.Go.ChangeSpec) : _root_.Go.OpenSpec := { _root_.Go.OpenSpec.ofChange s with cond := some uptoSmall }

/-- 'ropewalklaw10.RtoSettles', WHERE WHAT IT READS IS OF BULK AT MOST 1048576: true; the input reads as it did. -/
def rtoSettlesUptoRow : OpenClaim := { program := "ytkibogmplimegaa", sum := "1f90718da1450c389a356fbe4b36b7238d69410e27bb0922196b52c648e8572e", func := "ropewalk/ropewalklaw10.RtoSettles", spec := "rtoSettles", apart := false, narrowed := true }
def RtoSettlesUptoSaid : Prop := rtoSettlesUptoRow.holds Try.pinned (OpenSpec.upto rtoSettlesSpec)

/-- 'ropewalklaw10.RtoMay', WHERE WHAT IT READS IS OF BULK AT MOST 1048576: true; the input reads as it did. -/
def rtoMayUptoRow : OpenClaim := { program := "ytkibogmplimegaa", sum := "1f90718da1450c389a356fbe4b36b7238d69410e27bb0922196b52c648e8572e", func := "ropewalk/ropewalklaw10.RtoMay", spec := "rtoMay", apart := false, narrowed := true }
def RtoMayUptoSaid : Prop := rtoMayUptoRow.holds Try.pinned (OpenSpec.upto rtoMaySpec)

/-- 'ropewalklaw10.RtoDoubles', WHERE WHAT IT READS IS OF BULK AT MOST 1048576: true; the input reads as it did. -/
def rtoDoublesUptoRow : OpenClaim := { program := "ytkibogmplimegaa", sum := "1f90718da1450c389a356fbe4b36b7238d69410e27bb0922196b52c648e8572e", func := "ropewalk/ropewalklaw10.RtoDoubles", spec := "rtoDoubles", apart := false, narrowed := true }
def RtoDoublesUptoSaid : Prop := rtoDoublesUptoRow.holds Try.pinned (OpenSpec.upto rtoDoublesSpec)

/-- 'ropewalklaw10.RtoSteps', WHERE WHAT IT READS IS OF BULK AT MOST 1048576: true; the input reads as it did. -/
def rtoStepsUptoRow : OpenClaim := { program := "ytkibogmplimegaa", sum := "1f90718da1450c389a356fbe4b36b7238d69410e27bb0922196b52c648e8572e", func := "ropewalk/ropewalklaw10.RtoSteps", spec := "rtoSteps", apart := false, narrowed := true }
def RtoStepsUptoSaid : Prop := rtoStepsUptoRow.holds Try.pinned (OpenSpec.upto rtoStepsSpec)

end Rows
end Go.Proofs.Ytkibogmplimegaa
