/- Structs of numbers and bools that come in by value, opened. -/
import Derived.Test.YtmbklkgaapncfaaK
namespace Go.Proofs.Ytmbklkgaapncfaa.OpenStruct
open Go.ChangeShapes Go.WideShapes Go.RowKit
set_option linter.unusedVariables false
theorem cells3 : Try.prog.cellsOf 3 = 1 := by kernel_rfl
theorem cells32 : Try.prog.cellsOf 32 = 2 := by kernel_rfl
/-- one of them -/
structure E32 where
  f0 : Int
  f1 : Int
def d32 : E32 := ⟨0, 0⟩
/-- element i lies there -/
def At32 (w : World) (ad : Addr) (i : Nat) (x : E32) : Prop :=
  w.cell? ((ad.add (i * 2)).add 0) = some (.int .i64 x.f0) ∧ w.cell? ((ad.add (i * 2)).add 1) = some (.int .i64 x.f1) ∧ (Lit.int .i64 x.f0).wf = true ∧ (Lit.int .i64 x.f1).wf = true
/-- a row of them -/
def Row32 (w : World) (a : Option Addr) (len cap : Nat) (zs : List E32) : Prop :=
  zs.length = len ∧ len ≤ cap ∧ len ≤ 9223372036854775807 ∧ (a = none → cap = 0) ∧ (0 < len → ∃ ad, a = some ad) ∧ ∀ ad, a = some ad → ∀ i, i < len → At32 w ad i (zs.getD i d32)
theorem slice22 {H : Type} {enc : TypeId × Value → H} {w : World} {base : Nat} {spare : Nat → Bool} {held : Bool} {a : Option Addr} {len cap : Nat} {d : DataW H} {ps : List MemPlace}
    (h : DataW.Trod enc Try.prog w base spare held 22 (.slice a len cap) d ps) : ∃ zs, Row32 w a len cap zs := by
  obtain ⟨h1, h2, h3, h4, h5⟩ := OpenArg.structs Try.underlying22 Try.underlying32 cells32 h
  rcases Nat.eq_zero_or_pos len with h0 | h0
  · subst h0
    exact ⟨[], rfl, h1, h2, h3, h4, fun ad _ i hi => absurd hi (by omega)⟩
  obtain ⟨ad, rfl⟩ := h4 h0
  have he : ∀ i, i < len → ∃ x, At32 w ad i x := by
    intro i hi
    obtain ⟨cs, n, y, hl, hc, ht⟩ := h5 ad rfl i hi
    obtain ⟨c0, c1, rfl⟩ : ∃ c0 c1, cs = [c0, c1] := by
      match cs, hl with
      | [c0, c1], _ => exact ⟨c0, c1, rfl⟩
    obtain ⟨n0, y0, h10⟩ := OpenArg.field Try.underlying32 ht 0 3 0 1 rfl cells3
    obtain ⟨a0, e0, _, w0⟩ := DataW.trod_int Try.underlying3 h10
    simp at e0
    subst e0
    obtain ⟨n1, y1, h11⟩ := OpenArg.field Try.underlying32 ht 1 3 1 1 rfl cells3
    obtain ⟨a1, e1, _, w1⟩ := DataW.trod_int Try.underlying3 h11
    simp at e1
    subst e1
    exact ⟨⟨a0, a1⟩, hc 0 _ rfl, hc 1 _ rfl, w0, w1⟩
  obtain ⟨zs, g1, g2⟩ := OpenArg.list_of d32 len (At32 w ad) he
  exact ⟨zs, g1, h1, h2, h3, fun _ => ⟨ad, rfl⟩, fun ad' h i hi => by obtain rfl := Option.some.inj h; exact g2 i hi⟩
end Go.Proofs.Ytmbklkgaapncfaa.OpenStruct
