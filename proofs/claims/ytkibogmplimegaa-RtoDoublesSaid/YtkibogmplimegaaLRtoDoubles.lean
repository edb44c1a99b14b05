/- The walk of the law RtoDoubles. -/
import Derived.Test.YtkibogmplimegaaMRtoDoubles
import Derived.Test.YtkibogmplimegaaO
namespace Go.Proofs.Ytkibogmplimegaa.C
open Go.RowKit
set_option linter.unusedVariables false
theorem walk_RtoDoubles (a0_0 a0_1 a0_2 : Int) (a1_0 : Bool) (a1_1 a1_2 a1_3 : Int) (a2 : Int) (a3 : Int) (w : World) (w0_0 : (Lit.int .i64 a0_0).wf = true) (w0_1 : (Lit.int .i64 a0_1).wf = true) (w0_2 : (Lit.int .i64 a0_2).wf = true) (w1_1 : (Lit.int .i64 a1_1).wf = true) (w1_2 : (Lit.int .i64 a1_2).wf = true) (w1_3 : (Lit.int .i64 a1_3).wf = true) (w2 : (Lit.int .i64 a2).wf = true) (w3 : (Lit.int .i64 a3).wf = true) :
    Calls Try.prog 5 #[.agg #[.int .i64 a0_0, .int .i64 a0_1, .int .i64 a0_2], .agg #[.bool a1_0, .int .i64 a1_1, .int .i64 a1_2, .int .i64 a1_3], .int .i64 a2, .int .i64 a3] w fun e w' => e = .returned (.bool true) ∧ Below w.heap.size w w' := by
  obtain ⟨k, h⟩ := MRtoDoubles.doubles a0_0 a0_1 a0_2 a1_0 a1_1 a1_2 a1_3 a2 a3
  exact PRtoDoubles.ropewalklaw10_RtoDoubles.calls k _ _ _ _ _ _ _ _ _ true w h
end Go.Proofs.Ytkibogmplimegaa.C
