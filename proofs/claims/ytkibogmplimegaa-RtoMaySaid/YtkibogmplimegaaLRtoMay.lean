/- The walk of the law RtoMay. -/
import Derived.Test.YtkibogmplimegaaMRtoMay
import Derived.Test.YtkibogmplimegaaO
namespace Go.Proofs.Ytkibogmplimegaa.C
open Go.RowKit
set_option linter.unusedVariables false
theorem walk_RtoMay (a0_0 a0_1 a0_2 : Int) (a1_0 : Bool) (a1_1 a1_2 a1_3 : Int) (a2 : Int) (w : World) (w0_0 : (Lit.int .i64 a0_0).wf = true) (w0_1 : (Lit.int .i64 a0_1).wf = true) (w0_2 : (Lit.int .i64 a0_2).wf = true) (w1_1 : (Lit.int .i64 a1_1).wf = true) (w1_2 : (Lit.int .i64 a1_2).wf = true) (w1_3 : (Lit.int .i64 a1_3).wf = true) (w2 : (Lit.int .i64 a2).wf = true) :
    Calls Try.prog 4 #[.agg #[.int .i64 a0_0, .int .i64 a0_1, .int .i64 a0_2], .agg #[.bool a1_0, .int .i64 a1_1, .int .i64 a1_2, .int .i64 a1_3], .int .i64 a2] w fun e w' => e = .returned (.bool true) ∧ Below w.heap.size w w' := by
  obtain ⟨k, h⟩ := MRtoMay.mayLaw a0_0 a0_1 a0_2 a1_0 a1_1 a1_2 a1_3 a2
  exact PRtoMay.ropewalklaw10_RtoMay.calls k _ _ _ _ _ _ _ _ true w h
end Go.Proofs.Ytkibogmplimegaa.C
