/- Structs of numbers and bools that come in by value, opened. -/
import Derived.Test.YtncmklpnppenmaaK
namespace Go.Proofs.Ytncmklpnppenmaa.OpenStruct
open Go.ChangeShapes Go.WideShapes Go.RowKit
set_option linter.unusedVariables false
theorem arr3 {α : Type} {cs : Array α} (h : cs.size = 3) : ∃ c0 c1 c2, cs = #[c0, c1, c2] := by
  obtain ⟨l⟩ := cs
  match l, h with
  | [c0, c1, c2], _ => exact ⟨c0, c1, c2, rfl⟩
theorem cells3 : Try.prog.cellsOf 3 = 1 := by kernel_rfl
theorem cells23 : Try.prog.cellsOf 23 = 3 := by kernel_rfl
theorem open23 {H : Type} {enc : TypeId × Value → H} {W : World} {base b0 : Nat} {spare : Nat → Bool} {held : Bool} {r : Reach} {v : Value} {d : DataW H} {p : List MemPlace} (hv : Value.okWide Try.prog W r b0 23 v) (h : DataW.Trod enc Try.prog W base spare held 23 v d p) :
    ∃ (a0 : Int) (a1 : Int) (a2 : Int), v = .agg #[.int .i64 a0, .int .i64 a1, .int .i64 a2] ∧ (Lit.int .i64 a0).wf = true ∧ (Lit.int .i64 a1).wf = true ∧ (Lit.int .i64 a2).wf = true := by
  obtain ⟨cs, rfl, hsz⟩ := okWide_struct Try.underlying23 hv
  obtain ⟨c0, c1, c2, rfl⟩ := arr3 (hsz.trans cells23)
  obtain ⟨fuel, hf⟩ := h
  obtain ⟨n0, y0, h0⟩ := OpenArg.field Try.underlying23 hf 0 3 0 1 rfl cells3
  obtain ⟨a0, e0, _, w0⟩ := DataW.trod_int Try.underlying3 h0
  simp [Value.cells] at e0
  subst e0
  obtain ⟨n1, y1, h1⟩ := OpenArg.field Try.underlying23 hf 1 3 1 1 rfl cells3
  obtain ⟨a1, e1, _, w1⟩ := DataW.trod_int Try.underlying3 h1
  simp [Value.cells] at e1
  subst e1
  obtain ⟨n2, y2, h2⟩ := OpenArg.field Try.underlying23 hf 2 3 2 1 rfl cells3
  obtain ⟨a2, e2, _, w2⟩ := DataW.trod_int Try.underlying3 h2
  simp [Value.cells] at e2
  subst e2
  exact ⟨a0, a1, a2, rfl, w0, w1, w2⟩
theorem cells36 : Try.prog.cellsOf 36 = 1 := by kernel_rfl
theorem cells48 : Try.prog.cellsOf 48 = 3 := by kernel_rfl
/-- one of them -/
structure E48 where
  f0 : Int
  f1 : Int
  f2 : Int
def d48 : E48 := ⟨0, 0, 0⟩
/-- element i lies there -/
def At48 (w : World) (ad : Addr) (i : Nat) (x : E48) : Prop :=
  w.cell? ((ad.add (i * 3)).add 0) = some (.int .i64 x.f0) ∧ w.cell? ((ad.add (i * 3)).add 1) = some (.int .i64 x.f1) ∧ w.cell? ((ad.add (i * 3)).add 2) = some (.int .u32 x.f2) ∧ (Lit.int .i64 x.f0).wf = true ∧ (Lit.int .i64 x.f1).wf = true ∧ (Lit.int .u32 x.f2).wf = true
/-- a row of them -/
def Row48 (w : World) (a : Option Addr) (len cap : Nat) (zs : List E48) : Prop :=
  zs.length = len ∧ len ≤ cap ∧ len ≤ 9223372036854775807 ∧ (a = none → cap = 0) ∧ (0 < len → ∃ ad, a = some ad) ∧ ∀ ad, a = some ad → ∀ i, i < len → At48 w ad i (zs.getD i d48)
theorem slice42 {H : Type} {enc : TypeId × Value → H} {w : World} {base : Nat} {spare : Nat → Bool} {held : Bool} {a : Option Addr} {len cap : Nat} {d : DataW H} {ps : List MemPlace}
    (h : DataW.Trod enc Try.prog w base spare held 42 (.slice a len cap) d ps) : ∃ zs, Row48 w a len cap zs := by
  obtain ⟨h1, h2, h3, h4, h5⟩ := OpenArg.structs Try.underlying42 Try.underlying48 cells48 h
  rcases Nat.eq_zero_or_pos len with h0 | h0
  · subst h0
    exact ⟨[], rfl, h1, h2, h3, h4, fun ad _ i hi => absurd hi (by omega)⟩
  obtain ⟨ad, rfl⟩ := h4 h0
  have he : ∀ i, i < len → ∃ x, At48 w ad i x := by
    intro i hi
    obtain ⟨cs, n, y, hl, hc, ht⟩ := h5 ad rfl i hi
    obtain ⟨c0, c1, c2, rfl⟩ : ∃ c0 c1 c2, cs = [c0, c1, c2] := by
      match cs, hl with
      | [c0, c1, c2], _ => exact ⟨c0, c1, c2, rfl⟩
    obtain ⟨n0, y0, h10⟩ := OpenArg.field Try.underlying48 ht 0 3 0 1 rfl cells3
    obtain ⟨a0, e0, _, w0⟩ := DataW.trod_int Try.underlying3 h10
    simp at e0
    subst e0
    obtain ⟨n1, y1, h11⟩ := OpenArg.field Try.underlying48 ht 1 3 1 1 rfl cells3
    obtain ⟨a1, e1, _, w1⟩ := DataW.trod_int Try.underlying3 h11
    simp at e1
    subst e1
    obtain ⟨n2, y2, h12⟩ := OpenArg.field Try.underlying48 ht 2 36 2 1 rfl cells36
    obtain ⟨a2, e2, _, w2⟩ := DataW.trod_int Try.underlying36 h12
    simp at e2
    subst e2
    exact ⟨⟨a0, a1, a2⟩, hc 0 _ rfl, hc 1 _ rfl, hc 2 _ rfl, w0, w1, w2⟩
  obtain ⟨zs, g1, g2⟩ := OpenArg.list_of d48 len (At48 w ad) he
  exact ⟨zs, g1, h1, h2, h3, fun _ => ⟨ad, rfl⟩, fun ad' h i hi => by obtain rfl := Option.some.inj h; exact g2 i hi⟩
end Go.Proofs.Ytncmklpnppenmaa.OpenStruct
