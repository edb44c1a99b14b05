/- The laws CwndFalls, CwndAcks and CwndOpens, as their rows want them. -/
import Derived.Test.YtnmnoibkcnlbkaaT
namespace Go.Proofs.Ytnmnoibkcnlbkaa.C
open Go.RowKit
set_option linter.unusedVariables false
theorem row_CwndFalls (c s p m k : Int) (w : World) (h0 : (Lit.int .i64 c).wf = true) (h1 : (Lit.int .i64 s).wf = true) (h2 : (Lit.int .i64 p).wf = true) (h3 : (Lit.int .i64 m).wf = true) (h4 : (Lit.int .i64 k).wf = true) :
    Calls Try.prog 6 #[.agg #[.int .i64 c, .int .i64 s, .int .i64 p, .int .i64 m, .int .i64 k]] w fun e w' => e = .returned (.bool true) ∧ Below w.heap.size w w' := walk_CwndFalls c s p m k w
theorem row_CwndAcks (c s p m k n : Int) (full moved : Bool) (w : World) (h0 : (Lit.int .i64 c).wf = true) (h1 : (Lit.int .i64 s).wf = true) (h2 : (Lit.int .i64 p).wf = true) (h3 : (Lit.int .i64 m).wf = true) (h4 : (Lit.int .i64 k).wf = true) (h5 : (Lit.int .i64 n).wf = true) :
    Calls Try.prog 4 #[.agg #[.int .i64 c, .int .i64 s, .int .i64 p, .int .i64 m, .int .i64 k], .int .i64 n, .bool full, .bool moved] w fun e w' => e = .returned (.bool true) ∧ Below w.heap.size w w' := walk_CwndAcks c s p m k n full moved w
theorem row_CwndOpens (mtu limit peer c s p m k out : Int) (w : World) (g0 : (Lit.int .i64 mtu).wf = true) (g1 : (Lit.int .i64 limit).wf = true) (g2 : (Lit.int .i64 peer).wf = true) (h0 : (Lit.int .i64 c).wf = true) (h1 : (Lit.int .i64 s).wf = true) (h2 : (Lit.int .i64 p).wf = true) (h3 : (Lit.int .i64 m).wf = true) (h4 : (Lit.int .i64 k).wf = true) (h5 : (Lit.int .i64 out).wf = true) :
    Calls Try.prog 5 #[.int .i64 mtu, .int .i64 limit, .int .i64 peer, .agg #[.int .i64 c, .int .i64 s, .int .i64 p, .int .i64 m, .int .i64 k], .int .i64 out] w fun e w' => e = .returned (.bool true) ∧ Below w.heap.size w w' := by
  cases g : inB mtu 100 1500
  · exact opens_m mtu limit peer c s p m k out w g
  · cases g' : inB limit (4 * mtu) 1073741824
    · exact opens_l mtu limit peer c s p m k out w g g'
    · exact opens_t mtu limit peer c s p m k out w g g'
end Go.Proofs.Ytnmnoibkcnlbkaa.C
