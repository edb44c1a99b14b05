/- A slice of structs that came in, opened. -/
import Derived.Test.YtnmnoibkcnlbkaaK
namespace Go.Proofs.Ytnmnoibkcnlbkaa
open Go.RowKit
namespace OpenArg
open Go.ChangeShapes Go.WideShapes Go.Deep
variable {H : Type} {enc : TypeId × Value → H} {P : Program} {W : World} {base : Nat} {spare : Nat → Bool} {held : Bool}
theorem cells_get {w : World} {base n : Nat} {a : Addr} {cs : List Value} (h : w.cells? base a n = some cs) : cs.length = n ∧ ∀ j v, cs[j]? = some v → w.cell? (a.add j) = some v := by
  unfold World.cells? at h
  split at h
  · have hl := mapM_some_length h
    rw [List.length_range] at hl
    refine ⟨hl, fun j v hj => ?_⟩
    have hjn : j < n := by rw [← hl]; exact (List.getElem?_eq_some_iff.1 hj).1
    have := mapM_some_get h j j (by simp [hjn])
    rw [this]; exact hj
  · cases h
/-- A slice of structs that came in: each element's cells, read. -/
theorem structs {t e m : Nat} {fs : Array Field} {a : Option Addr} {len cap : Nat} {d : DataW H} {ps : List MemPlace} (hu : P.underlying t = some (.slice e)) (_he : P.underlying e = some (.struct fs)) (hm : P.cellsOf e = m)
    (h : DataW.Trod enc P W base spare held t (.slice a len cap) d ps) :
    len ≤ cap ∧ len ≤ 9223372036854775807 ∧ (a = none → cap = 0) ∧ (0 < len → ∃ ad, a = some ad) ∧
      ∀ ad, a = some ad → ∀ i, i < len → ∃ cs n y, cs.length = m ∧ (∀ j v, cs[j]? = some v → W.cell? ((ad.add (i * m)).add j) = some v) ∧ DataW.trod enc P W base spare held n e cs = some y := by
  obtain ⟨fuel, hf⟩ := h
  rcases open_slice hu hf with ⟨hcs, _⟩ | ⟨a', l', c', m', n, D, Pl, hcs, _, hl, hmx, hm', _, hel⟩
  · simp [Value.cells] at hcs
    obtain ⟨rfl, rfl, rfl⟩ := hcs
    exact ⟨Nat.le_refl _, by omega, fun _ => rfl, fun h => absurd h (by omega), (fun ad h => by cases h)⟩
  · simp [Value.cells] at hcs
    obtain ⟨rfl, rfl, rfl⟩ := hcs
    refine ⟨hl, (by simp only [maxLen] at hmx; omega), (fun h => by cases h), (fun _ => ⟨_, rfl⟩), fun ad h i hi => ?_⟩
    obtain rfl := Option.some.inj h
    have hi' : i < m' := by rw [hm']; split <;> omega
    obtain ⟨cs', h1, h2⟩ := hel i hi'
    rw [hm] at h1
    obtain ⟨h3, h4⟩ := cells_get h1
    exact ⟨cs', n, _, h3, h4, h2⟩
/-- Out of one for each place a list. -/
theorem list_of {α : Type} (dflt : α) (n : Nat) (p : Nat → α → Prop) (h : ∀ i, i < n → ∃ x, p i x) : ∃ zs : List α, zs.length = n ∧ ∀ i, i < n → p i (zs.getD i dflt) := by
  induction n with
  | zero => exact ⟨[], rfl, fun i hi => absurd hi (by omega)⟩
  | succ n ih =>
    obtain ⟨zs, h1, h2⟩ := ih fun i hi => h i (by omega)
    obtain ⟨x, hx⟩ := h n (by omega)
    refine ⟨zs ++ [x], by simp [h1], fun i hi => ?_⟩
    by_cases hin : i < n
    · have := h2 i hin
      rw [List.getD_eq_getElem?_getD] at this ⊢
      rwa [List.getElem?_append_left (by omega)]
    · obtain rfl : i = n := by omega
      rw [List.getD_eq_getElem?_getD, List.getElem?_append_right (by omega), h1]
      simpa using hx
end OpenArg
end Go.Proofs.Ytnmnoibkcnlbkaa
