/- Structs of numbers and bools that come in by value, opened. -/
import Derived.Test.YtbcmgchclkjgeaaK
namespace Go.Proofs.Ytbcmgchclkjgeaa.OpenStruct
open Go.ChangeShapes Go.WideShapes Go.RowKit
set_option linter.unusedVariables false
theorem arr3 {α : Type} {cs : Array α} (h : cs.size = 3) : ∃ c0 c1 c2, cs = #[c0, c1, c2] := by
  obtain ⟨l⟩ := cs
  match l, h with
  | [c0, c1, c2], _ => exact ⟨c0, c1, c2, rfl⟩
theorem cells3 : Try.prog.cellsOf 3 = 1 := by kernel_rfl
theorem cells23 : Try.prog.cellsOf 23 = 3 := by kernel_rfl
theorem open23 {H : Type} {enc : TypeId × Value → H} {W : World} {base b0 : Nat} {spare : Nat → Bool} {held : Bool} {r : Reach} {v : Value} {d : DataW H} {p : List MemPlace} (hv : Value.okWide Try.prog W r b0 23 v) (h : DataW.Trod enc Try.prog W base spare held 23 v d p) :
    ∃ (a0 : Int) (a1 : Int) (a2 : Int), v = .agg #[.int .i64 a0, .int .i64 a1, .int .i64 a2] ∧ (Lit.int .i64 a0).wf = true ∧ (Lit.int .i64 a1).wf = true ∧ (Lit.int .i64 a2).wf = true := by
  obtain ⟨cs, rfl, hsz⟩ := okWide_struct Try.underlying23 hv
  obtain ⟨c0, c1, c2, rfl⟩ := arr3 (hsz.trans cells23)
  obtain ⟨fuel, hf⟩ := h
  obtain ⟨n0, y0, h0⟩ := OpenArg.field Try.underlying23 hf 0 3 0 1 rfl cells3
  obtain ⟨a0, e0, _, w0⟩ := DataW.trod_int Try.underlying3 h0
  simp [Value.cells] at e0
  subst e0
  obtain ⟨n1, y1, h1⟩ := OpenArg.field Try.underlying23 hf 1 3 1 1 rfl cells3
  obtain ⟨a1, e1, _, w1⟩ := DataW.trod_int Try.underlying3 h1
  simp [Value.cells] at e1
  subst e1
  obtain ⟨n2, y2, h2⟩ := OpenArg.field Try.underlying23 hf 2 3 2 1 rfl cells3
  obtain ⟨a2, e2, _, w2⟩ := DataW.trod_int Try.underlying3 h2
  simp [Value.cells] at e2
  subst e2
  exact ⟨a0, a1, a2, rfl, w0, w1, w2⟩
end Go.Proofs.Ytbcmgchclkjgeaa.OpenStruct
