/- Structs of numbers and bools that come in by value, opened. -/
import Derived.Test.YtnmnoibkcnlbkaaK2
namespace Go.Proofs.Ytnmnoibkcnlbkaa.OpenStruct
open Go.ChangeShapes Go.WideShapes Go.RowKit
set_option linter.unusedVariables false
theorem arr5 {α : Type} {cs : Array α} (h : cs.size = 5) : ∃ c0 c1 c2 c3 c4, cs = #[c0, c1, c2, c3, c4] := by
  obtain ⟨l⟩ := cs
  match l, h with
  | [c0, c1, c2, c3, c4], _ => exact ⟨c0, c1, c2, c3, c4, rfl⟩
theorem cells3 : Try.prog.cellsOf 3 = 1 := by kernel_rfl
theorem cells24 : Try.prog.cellsOf 24 = 5 := by kernel_rfl
theorem open24 {H : Type} {enc : TypeId × Value → H} {W : World} {base b0 : Nat} {spare : Nat → Bool} {held : Bool} {r : Reach} {v : Value} {d : DataW H} {p : List MemPlace} (hv : Value.okWide Try.prog W r b0 24 v) (h : DataW.Trod enc Try.prog W base spare held 24 v d p) :
    ∃ (a0 : Int) (a1 : Int) (a2 : Int) (a3 : Int) (a4 : Int), v = .agg #[.int .i64 a0, .int .i64 a1, .int .i64 a2, .int .i64 a3, .int .i64 a4] ∧ (Lit.int .i64 a0).wf = true ∧ (Lit.int .i64 a1).wf = true ∧ (Lit.int .i64 a2).wf = true ∧ (Lit.int .i64 a3).wf = true ∧ (Lit.int .i64 a4).wf = true := by
  obtain ⟨cs, rfl, hsz⟩ := okWide_struct Try.underlying24 hv
  obtain ⟨c0, c1, c2, c3, c4, rfl⟩ := arr5 (hsz.trans cells24)
  obtain ⟨fuel, hf⟩ := h
  obtain ⟨n0, y0, h0⟩ := OpenArg.field Try.underlying24 hf 0 3 0 1 rfl cells3
  obtain ⟨a0, e0, _, w0⟩ := DataW.trod_int Try.underlying3 h0
  simp [Value.cells] at e0
  subst e0
  obtain ⟨n1, y1, h1⟩ := OpenArg.field Try.underlying24 hf 1 3 1 1 rfl cells3
  obtain ⟨a1, e1, _, w1⟩ := DataW.trod_int Try.underlying3 h1
  simp [Value.cells] at e1
  subst e1
  obtain ⟨n2, y2, h2⟩ := OpenArg.field Try.underlying24 hf 2 3 2 1 rfl cells3
  obtain ⟨a2, e2, _, w2⟩ := DataW.trod_int Try.underlying3 h2
  simp [Value.cells] at e2
  subst e2
  obtain ⟨n3, y3, h3⟩ := OpenArg.field Try.underlying24 hf 3 3 3 1 rfl cells3
  obtain ⟨a3, e3, _, w3⟩ := DataW.trod_int Try.underlying3 h3
  simp [Value.cells] at e3
  subst e3
  obtain ⟨n4, y4, h4⟩ := OpenArg.field Try.underlying24 hf 4 3 4 1 rfl cells3
  obtain ⟨a4, e4, _, w4⟩ := DataW.trod_int Try.underlying3 h4
  simp [Value.cells] at e4
  subst e4
  exact ⟨a0, a1, a2, a3, a4, rfl, w0, w1, w2, w3, w4⟩
theorem cells4 : Try.prog.cellsOf 4 = 1 := by kernel_rfl
theorem cells39 : Try.prog.cellsOf 39 = 4 := by kernel_rfl
/-- one of them -/
structure E39 where
  f0 : Int
  f1 : Int
  f2 : Bool
  f3 : Bool
def d39 : E39 := ⟨0, 0, false, false⟩
/-- element i lies there -/
def At39 (w : World) (ad : Addr) (i : Nat) (x : E39) : Prop :=
  w.cell? ((ad.add (i * 4)).add 0) = some (.int .i64 x.f0) ∧ w.cell? ((ad.add (i * 4)).add 1) = some (.int .i64 x.f1) ∧ w.cell? ((ad.add (i * 4)).add 2) = some (.bool x.f2) ∧ w.cell? ((ad.add (i * 4)).add 3) = some (.bool x.f3) ∧ (Lit.int .i64 x.f0).wf = true ∧ (Lit.int .i64 x.f1).wf = true
/-- a row of them -/
def Row39 (w : World) (a : Option Addr) (len cap : Nat) (zs : List E39) : Prop :=
  zs.length = len ∧ len ≤ cap ∧ len ≤ 9223372036854775807 ∧ (a = none → cap = 0) ∧ (0 < len → ∃ ad, a = some ad) ∧ ∀ ad, a = some ad → ∀ i, i < len → At39 w ad i (zs.getD i d39)
theorem slice37 {H : Type} {enc : TypeId × Value → H} {w : World} {base : Nat} {spare : Nat → Bool} {held : Bool} {a : Option Addr} {len cap : Nat} {d : DataW H} {ps : List MemPlace}
    (h : DataW.Trod enc Try.prog w base spare held 37 (.slice a len cap) d ps) : ∃ zs, Row39 w a len cap zs := by
  obtain ⟨h1, h2, h3, h4, h5⟩ := OpenArg.structs Try.underlying37 Try.underlying39 cells39 h
  rcases Nat.eq_zero_or_pos len with h0 | h0
  · subst h0
    exact ⟨[], rfl, h1, h2, h3, h4, fun ad _ i hi => absurd hi (by omega)⟩
  obtain ⟨ad, rfl⟩ := h4 h0
  have he : ∀ i, i < len → ∃ x, At39 w ad i x := by
    intro i hi
    obtain ⟨cs, n, y, hl, hc, ht⟩ := h5 ad rfl i hi
    obtain ⟨c0, c1, c2, c3, rfl⟩ : ∃ c0 c1 c2 c3, cs = [c0, c1, c2, c3] := by
      match cs, hl with
      | [c0, c1, c2, c3], _ => exact ⟨c0, c1, c2, c3, rfl⟩
    obtain ⟨n0, y0, h10⟩ := OpenArg.field Try.underlying39 ht 0 3 0 1 rfl cells3
    obtain ⟨a0, e0, _, w0⟩ := DataW.trod_int Try.underlying3 h10
    simp at e0
    subst e0
    obtain ⟨n1, y1, h11⟩ := OpenArg.field Try.underlying39 ht 1 3 1 1 rfl cells3
    obtain ⟨a1, e1, _, w1⟩ := DataW.trod_int Try.underlying3 h11
    simp at e1
    subst e1
    obtain ⟨n2, y2, h12⟩ := OpenArg.field Try.underlying39 ht 2 4 2 1 rfl cells4
    obtain ⟨a2, e2⟩ := OpenArg.bool_cell Try.underlying4 h12
    simp at e2
    subst e2
    obtain ⟨n3, y3, h13⟩ := OpenArg.field Try.underlying39 ht 3 4 3 1 rfl cells4
    obtain ⟨a3, e3⟩ := OpenArg.bool_cell Try.underlying4 h13
    simp at e3
    subst e3
    exact ⟨⟨a0, a1, a2, a3⟩, hc 0 _ rfl, hc 1 _ rfl, hc 2 _ rfl, hc 3 _ rfl, w0, w1⟩
  obtain ⟨zs, g1, g2⟩ := OpenArg.list_of d39 len (At39 w ad) he
  exact ⟨zs, g1, h1, h2, h3, fun _ => ⟨ad, rfl⟩, fun ad' h i hi => by obtain rfl := Option.some.inj h; exact g2 i hi⟩
end Go.Proofs.Ytnmnoibkcnlbkaa.OpenStruct
