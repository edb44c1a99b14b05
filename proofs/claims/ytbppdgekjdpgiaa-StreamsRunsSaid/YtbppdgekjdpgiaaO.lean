/- Structs of numbers and bools that come in by value, opened. -/
import Derived.Test.YtbppdgekjdpgiaaK
namespace Go.Proofs.Ytbppdgekjdpgiaa.OpenStruct
open Go.ChangeShapes Go.WideShapes Go.RowKit
set_option linter.unusedVariables false
theorem slice_cell {H : Type} {enc : TypeId × Value → H} {P : Program} {w : World} {base : Nat} {spare : Nat → Bool} {held : Bool} {t e fuel : Nat} {cs : List Value} {x : DataW H × List MemPlace} (ht : P.underlying t = some (.slice e)) (h : DataW.trod enc P w base spare held fuel t cs = some x) : ∃ a l c, cs = [.slice a l c] := by
  rcases Go.Deep.open_slice ht h with ⟨hcs, _⟩ | ⟨a, l, c, _, _, _, _, hcs, _⟩
  · exact ⟨_, _, _, hcs⟩
  · exact ⟨_, _, _, hcs⟩
theorem arr6 {α : Type} {cs : Array α} (h : cs.size = 6) : ∃ c0 c1 c2 c3 c4 c5, cs = #[c0, c1, c2, c3, c4, c5] := by
  obtain ⟨l⟩ := cs
  match l, h with
  | [c0, c1, c2, c3, c4, c5], _ => exact ⟨c0, c1, c2, c3, c4, c5, rfl⟩
theorem cells3 : Try.prog.cellsOf 3 = 1 := by kernel_rfl
theorem cells4 : Try.prog.cellsOf 4 = 1 := by kernel_rfl
theorem cells30 : Try.prog.cellsOf 30 = 1 := by kernel_rfl
theorem cells31 : Try.prog.cellsOf 31 = 1 := by kernel_rfl
theorem cells32 : Try.prog.cellsOf 32 = 1 := by kernel_rfl
theorem cells49 : Try.prog.cellsOf 49 = 6 := by kernel_rfl
theorem cells5 : Try.prog.cellsOf 5 = 1 := by kernel_rfl
theorem open49 {H : Type} {enc : TypeId × Value → H} {W : World} {base b0 : Nat} {spare : Nat → Bool} {held : Bool} {r : Reach} {v : Value} {d : DataW H} {p : List MemPlace} (hv : Value.okWide Try.prog W r b0 49 v) (h : DataW.Trod enc Try.prog W base spare held 49 v d p) :
    ∃ (a0 : Int) (a1 : Int) (a2 : Int) (a3 : Bool) (a4 : Option Addr) (l4 k4 : Nat) (z4 : List Int) (a5 : Int), v = .agg #[.int .i64 a0, .int .u16 a1, .int .u32 a2, .bool a3, .slice a4 l4 k4, .int .i64 a5] ∧ (Lit.int .i64 a0).wf = true ∧ (Lit.int .u16 a1).wf = true ∧ (Lit.int .u32 a2).wf = true ∧ (Rd .u8 W a4 l4 z4 ∧ (∀ y ∈ z4, (Lit.int .u8 y).wf = true) ∧ l4 ≤ k4 ∧ (a4 = none → k4 = 0)) ∧ (Lit.int .i64 a5).wf = true := by
  obtain ⟨cs, rfl, hsz⟩ := okWide_struct Try.underlying49 hv
  obtain ⟨c0, c1, c2, c3, c4, c5, rfl⟩ := arr6 (hsz.trans cells49)
  obtain ⟨fuel, hf⟩ := h
  obtain ⟨n0, y0, h0⟩ := OpenArg.field Try.underlying49 hf 0 3 0 1 rfl cells3
  obtain ⟨a0, e0, _, w0⟩ := DataW.trod_int Try.underlying3 h0
  simp [Value.cells] at e0
  subst e0
  obtain ⟨n1, y1, h1⟩ := OpenArg.field Try.underlying49 hf 1 30 1 1 rfl cells30
  obtain ⟨a1, e1, _, w1⟩ := DataW.trod_int Try.underlying30 h1
  simp [Value.cells] at e1
  subst e1
  obtain ⟨n2, y2, h2⟩ := OpenArg.field Try.underlying49 hf 2 31 2 1 rfl cells31
  obtain ⟨a2, e2, _, w2⟩ := DataW.trod_int Try.underlying31 h2
  simp [Value.cells] at e2
  subst e2
  obtain ⟨n3, y3, h3⟩ := OpenArg.field Try.underlying49 hf 3 4 3 1 rfl cells4
  obtain ⟨a3, e3⟩ := OpenArg.bool_cell Try.underlying4 h3
  simp [Value.cells] at e3
  subst e3
  obtain ⟨n4, y4, h4⟩ := OpenArg.field Try.underlying49 hf 4 32 4 1 rfl cells32
  obtain ⟨a4, l4, k4, e4⟩ := slice_cell Try.underlying32 h4
  simp [Value.cells] at e4
  subst e4
  obtain ⟨z4, w4⟩ := OpenArg.ints (enc := enc) (base := base) (spare := spare) (held := held) Try.underlying32 Try.underlying5 cells5 ⟨n4, h4⟩
  obtain ⟨n5, y5, h5⟩ := OpenArg.field Try.underlying49 hf 5 3 5 1 rfl cells3
  obtain ⟨a5, e5, _, w5⟩ := DataW.trod_int Try.underlying3 h5
  simp [Value.cells] at e5
  subst e5
  exact ⟨a0, a1, a2, a3, a4, l4, k4, z4, a5, rfl, w0, w1, w2, w4, w5⟩
/-- one of them -/
structure E49 where
  f0 : Int
  f1 : Int
  f2 : Int
  f3 : Bool
  f4 : Option Addr × Nat × Nat × List Int
  f5 : Int
def d49 : E49 := ⟨0, 0, 0, false, (none, 0, 0, []), 0⟩
/-- element i lies there -/
def At49 (w : World) (ad : Addr) (i : Nat) (x : E49) : Prop :=
  w.cell? ((ad.add (i * 6)).add 0) = some (.int .i64 x.f0) ∧ w.cell? ((ad.add (i * 6)).add 1) = some (.int .u16 x.f1) ∧ w.cell? ((ad.add (i * 6)).add 2) = some (.int .u32 x.f2) ∧ w.cell? ((ad.add (i * 6)).add 3) = some (.bool x.f3) ∧ w.cell? ((ad.add (i * 6)).add 4) = some (.slice x.f4.1 x.f4.2.1 x.f4.2.2.1) ∧ w.cell? ((ad.add (i * 6)).add 5) = some (.int .i64 x.f5) ∧ (Lit.int .i64 x.f0).wf = true ∧ (Lit.int .u16 x.f1).wf = true ∧ (Lit.int .u32 x.f2).wf = true ∧ (Rd .u8 w x.f4.1 x.f4.2.1 x.f4.2.2.2 ∧ (∀ y ∈ x.f4.2.2.2, (Lit.int .u8 y).wf = true) ∧ x.f4.2.1 ≤ x.f4.2.2.1 ∧ (x.f4.1 = none → x.f4.2.2.1 = 0)) ∧ (Lit.int .i64 x.f5).wf = true
/-- a row of them -/
def Row49 (w : World) (a : Option Addr) (len cap : Nat) (zs : List E49) : Prop :=
  zs.length = len ∧ len ≤ cap ∧ len ≤ 9223372036854775807 ∧ (a = none → cap = 0) ∧ (0 < len → ∃ ad, a = some ad) ∧ ∀ ad, a = some ad → ∀ i, i < len → At49 w ad i (zs.getD i d49)
theorem slice45 {H : Type} {enc : TypeId × Value → H} {w : World} {base : Nat} {spare : Nat → Bool} {held : Bool} {a : Option Addr} {len cap : Nat} {d : DataW H} {ps : List MemPlace}
    (h : DataW.Trod enc Try.prog w base spare held 45 (.slice a len cap) d ps) : ∃ zs, Row49 w a len cap zs := by
  obtain ⟨h1, h2, h3, h4, h5⟩ := OpenArg.structs Try.underlying45 Try.underlying49 cells49 h
  rcases Nat.eq_zero_or_pos len with h0 | h0
  · subst h0
    exact ⟨[], rfl, h1, h2, h3, h4, fun ad _ i hi => absurd hi (by omega)⟩
  obtain ⟨ad, rfl⟩ := h4 h0
  have he : ∀ i, i < len → ∃ x, At49 w ad i x := by
    intro i hi
    obtain ⟨cs, n, y, hl, hc, ht⟩ := h5 ad rfl i hi
    obtain ⟨c0, c1, c2, c3, c4, c5, rfl⟩ : ∃ c0 c1 c2 c3 c4 c5, cs = [c0, c1, c2, c3, c4, c5] := by
      match cs, hl with
      | [c0, c1, c2, c3, c4, c5], _ => exact ⟨c0, c1, c2, c3, c4, c5, rfl⟩
    obtain ⟨n0, y0, h10⟩ := OpenArg.field Try.underlying49 ht 0 3 0 1 rfl cells3
    obtain ⟨a0, e0, _, w0⟩ := DataW.trod_int Try.underlying3 h10
    simp at e0
    subst e0
    obtain ⟨n1, y1, h11⟩ := OpenArg.field Try.underlying49 ht 1 30 1 1 rfl cells30
    obtain ⟨a1, e1, _, w1⟩ := DataW.trod_int Try.underlying30 h11
    simp at e1
    subst e1
    obtain ⟨n2, y2, h12⟩ := OpenArg.field Try.underlying49 ht 2 31 2 1 rfl cells31
    obtain ⟨a2, e2, _, w2⟩ := DataW.trod_int Try.underlying31 h12
    simp at e2
    subst e2
    obtain ⟨n3, y3, h13⟩ := OpenArg.field Try.underlying49 ht 3 4 3 1 rfl cells4
    obtain ⟨a3, e3⟩ := OpenArg.bool_cell Try.underlying4 h13
    simp at e3
    subst e3
    obtain ⟨n4, y4, h14⟩ := OpenArg.field Try.underlying49 ht 4 32 4 1 rfl cells32
    obtain ⟨a4, l4, k4, e4⟩ := slice_cell Try.underlying32 h14
    simp at e4
    subst e4
    obtain ⟨z4, w4⟩ := OpenArg.ints (enc := enc) (base := base) (spare := spare) (held := held) Try.underlying32 Try.underlying5 cells5 ⟨n4, h14⟩
    obtain ⟨n5, y5, h15⟩ := OpenArg.field Try.underlying49 ht 5 3 5 1 rfl cells3
    obtain ⟨a5, e5, _, w5⟩ := DataW.trod_int Try.underlying3 h15
    simp at e5
    subst e5
    exact ⟨⟨a0, a1, a2, a3, (a4, l4, k4, z4), a5⟩, hc 0 _ rfl, hc 1 _ rfl, hc 2 _ rfl, hc 3 _ rfl, hc 4 _ rfl, hc 5 _ rfl, w0, w1, w2, w4, w5⟩
  obtain ⟨zs, g1, g2⟩ := OpenArg.list_of d49 len (At49 w ad) he
  exact ⟨zs, g1, h1, h2, h3, fun _ => ⟨ad, rfl⟩, fun ad' h i hi => by obtain rfl := Option.some.inj h; exact g2 i hi⟩
theorem cells34 : Try.prog.cellsOf 34 = 5 := by kernel_rfl
/-- one of them -/
structure E34 where
  f0 : Int
  f1 : Int
  f2 : Int
  f3 : Bool
  f4 : Option Addr × Nat × Nat × List Int
def d34 : E34 := ⟨0, 0, 0, false, (none, 0, 0, [])⟩
/-- element i lies there -/
def At34 (w : World) (ad : Addr) (i : Nat) (x : E34) : Prop :=
  w.cell? ((ad.add (i * 5)).add 0) = some (.int .u16 x.f0) ∧ w.cell? ((ad.add (i * 5)).add 1) = some (.int .u16 x.f1) ∧ w.cell? ((ad.add (i * 5)).add 2) = some (.int .u32 x.f2) ∧ w.cell? ((ad.add (i * 5)).add 3) = some (.bool x.f3) ∧ w.cell? ((ad.add (i * 5)).add 4) = some (.slice x.f4.1 x.f4.2.1 x.f4.2.2.1) ∧ (Lit.int .u16 x.f0).wf = true ∧ (Lit.int .u16 x.f1).wf = true ∧ (Lit.int .u32 x.f2).wf = true ∧ (Rd .u8 w x.f4.1 x.f4.2.1 x.f4.2.2.2 ∧ (∀ y ∈ x.f4.2.2.2, (Lit.int .u8 y).wf = true) ∧ x.f4.2.1 ≤ x.f4.2.2.1 ∧ (x.f4.1 = none → x.f4.2.2.1 = 0))
/-- a row of them -/
def Row34 (w : World) (a : Option Addr) (len cap : Nat) (zs : List E34) : Prop :=
  zs.length = len ∧ len ≤ cap ∧ len ≤ 9223372036854775807 ∧ (a = none → cap = 0) ∧ (0 < len → ∃ ad, a = some ad) ∧ ∀ ad, a = some ad → ∀ i, i < len → At34 w ad i (zs.getD i d34)
theorem slice22 {H : Type} {enc : TypeId × Value → H} {w : World} {base : Nat} {spare : Nat → Bool} {held : Bool} {a : Option Addr} {len cap : Nat} {d : DataW H} {ps : List MemPlace}
    (h : DataW.Trod enc Try.prog w base spare held 22 (.slice a len cap) d ps) : ∃ zs, Row34 w a len cap zs := by
  obtain ⟨h1, h2, h3, h4, h5⟩ := OpenArg.structs Try.underlying22 Try.underlying34 cells34 h
  rcases Nat.eq_zero_or_pos len with h0 | h0
  · subst h0
    exact ⟨[], rfl, h1, h2, h3, h4, fun ad _ i hi => absurd hi (by omega)⟩
  obtain ⟨ad, rfl⟩ := h4 h0
  have he : ∀ i, i < len → ∃ x, At34 w ad i x := by
    intro i hi
    obtain ⟨cs, n, y, hl, hc, ht⟩ := h5 ad rfl i hi
    obtain ⟨c0, c1, c2, c3, c4, rfl⟩ : ∃ c0 c1 c2 c3 c4, cs = [c0, c1, c2, c3, c4] := by
      match cs, hl with
      | [c0, c1, c2, c3, c4], _ => exact ⟨c0, c1, c2, c3, c4, rfl⟩
    obtain ⟨n0, y0, h10⟩ := OpenArg.field Try.underlying34 ht 0 30 0 1 rfl cells30
    obtain ⟨a0, e0, _, w0⟩ := DataW.trod_int Try.underlying30 h10
    simp at e0
    subst e0
    obtain ⟨n1, y1, h11⟩ := OpenArg.field Try.underlying34 ht 1 30 1 1 rfl cells30
    obtain ⟨a1, e1, _, w1⟩ := DataW.trod_int Try.underlying30 h11
    simp at e1
    subst e1
    obtain ⟨n2, y2, h12⟩ := OpenArg.field Try.underlying34 ht 2 31 2 1 rfl cells31
    obtain ⟨a2, e2, _, w2⟩ := DataW.trod_int Try.underlying31 h12
    simp at e2
    subst e2
    obtain ⟨n3, y3, h13⟩ := OpenArg.field Try.underlying34 ht 3 4 3 1 rfl cells4
    obtain ⟨a3, e3⟩ := OpenArg.bool_cell Try.underlying4 h13
    simp at e3
    subst e3
    obtain ⟨n4, y4, h14⟩ := OpenArg.field Try.underlying34 ht 4 32 4 1 rfl cells32
    obtain ⟨a4, l4, k4, e4⟩ := slice_cell Try.underlying32 h14
    simp at e4
    subst e4
    obtain ⟨z4, w4⟩ := OpenArg.ints (enc := enc) (base := base) (spare := spare) (held := held) Try.underlying32 Try.underlying5 cells5 ⟨n4, h14⟩
    exact ⟨⟨a0, a1, a2, a3, (a4, l4, k4, z4)⟩, hc 0 _ rfl, hc 1 _ rfl, hc 2 _ rfl, hc 3 _ rfl, hc 4 _ rfl, w0, w1, w2, w4⟩
  obtain ⟨zs, g1, g2⟩ := OpenArg.list_of d34 len (At34 w ad) he
  exact ⟨zs, g1, h1, h2, h3, fun _ => ⟨ad, rfl⟩, fun ad' h i hi => by obtain rfl := Option.some.inj h; exact g2 i hi⟩
end Go.Proofs.Ytbppdgekjdpgiaa.OpenStruct
