/- Small words of this seat's proofs: numbers that lie in memory; what an argument reads as when it is opened. -/
import Derived.Test.YtbppdgekjdpgiaaRows
import Derived.WalkKit
import Derived.WalkSpells
import Derived.WalkLawsBesides
import Derived.ProofKit
import Derived.SizedLaws
import Derived.ChangeSlices
import Derived.Deep.Slices
import Derived.OpenShut
import Derived.Lib.Hide
import Derived.Outline
namespace Go.Proofs.Ytbppdgekjdpgiaa
open Go.RowKit

theorem ret_int {k : IntKind} {a b : Int} (h : a = b) : Ending.returned (.int k a) = .returned (.int k b) := by rw [h]
theorem ret_bool {a b : Bool} (h : a = b) : Ending.returned (.bool a) = .returned (.bool b) := by rw [h]
theorem add_plain (g j : Nat) : (⟨g, 0, none⟩ : Addr).add j = ⟨g, j, none⟩ := by unfold Addr.add; split <;> simp_all
theorem block_add (a : Addr) (j : Nat) : (a.add j).block = a.block := by unfold Addr.add; split <;> rfl

/-- the number at place j -/
def rdI (xs : List Int) (j : Nat) : Int := xs.getD j 0
/-- n whole numbers lie at A -/
def Rd (k : IntKind) (w : World) (A : Option Addr) (n : Nat) (xs : List Int) : Prop :=
  xs.length = n ∧ n ≤ 9223372036854775807 ∧ (0 < n → ∃ ad, A = some ad ∧ ∀ j, j < n → w.cell? (ad.add j) = some (.int k (rdI xs j)))
/-- numbers that were just made -/
theorem Rd_new (w : World) (k : IntKind) (t : TypeId) (xs : List Int) (h : xs.length ≤ 9223372036854775807) : Rd k (w.alloc (.cells (xs.map fun x => Value.int k x).toArray t)) (some ⟨w.heap.size, 0, none⟩) xs.length xs := by
  refine ⟨rfl, h, fun _ => ⟨_, rfl, fun j hj => ?_⟩⟩
  rw [add_plain, cell_of_row _ w.heap.size j _ t (0, 0) (heap_alloc_new w _)]
  simp [rdI, hj]
theorem Rd.below {k : IntKind} {w w' : World} {A : Option Addr} {n : Nat} {xs : List Int} (h : Rd k w A n xs) (hb : Below w.heap.size w w') : Rd k w' A n xs :=
  ⟨h.1, h.2.1, fun hn => by
    obtain ⟨ad, e, hc⟩ := h.2.2 hn
    refine ⟨ad, e, fun j hj => ?_⟩
    have := hc j hj
    rw [hb.cell (World.block_lt_of_cell? w _ this)]
    exact this⟩
theorem rdI_mem (xs : List Int) (p : Int → Prop) (h0 : p 0) (hx : ∀ x ∈ xs, p x) (k : Nat) : p (rdI xs k) := by
  unfold rdI
  by_cases h : k < xs.length
  · rw [List.getD_eq_getElem?_getD, List.getElem?_eq_getElem h]; exact hx _ (List.getElem_mem h)
  · rw [List.getD_eq_getElem?_getD, List.getElem?_eq_none (by omega)]; exact h0

/-- The greater, the smaller of two whole numbers, as Go's max and min tell them. -/
def mx (a b : Int) : Int := if a < b then b else a
def mn (a b : Int) : Int := if b < a then b else a
theorem max2_mx (k k' : IntKind) (x y : Int) : Builtin.max2 (.int k x) (.int k' y) = pure (.int k (mx x y)) := by simp only [Builtin.max2, mx, gt_iff_lt]
theorem min2_mn (k k' : IntKind) (x y : Int) : Builtin.min2 (.int k x) (.int k' y) = pure (.int k (mn x y)) := by simp only [Builtin.min2, mn]
theorem max_two (ats : Array TypeId) (ty : TypeId) (a b : Value) : Builtin.max_ ats ty #[a, b] = (Builtin.max2 a b >>= fun s => pure s) := by simp only [Builtin.max_, List.foldlM_cons, List.foldlM_nil]
theorem min_two (ats : Array TypeId) (ty : TypeId) (a b : Value) : Builtin.min_ ats ty #[a, b] = (Builtin.min2 a b >>= fun s => pure s) := by simp only [Builtin.min_, List.foldlM_cons, List.foldlM_nil]
theorem mx_def (a b : Int) : mx a b = if a ≤ b then b else a := by unfold mx; split <;> split <;> omega
theorem mn_def (a b : Int) : mn a b = if a ≤ b then a else b := by unfold mn; split <;> split <;> omega

theorem bcell {W w1 : World} (hb : Below W.heap.size W w1) : (∀ b o, b < W.heap.size → w1.cell? ⟨b, o, none⟩ = W.cell? ⟨b, o, none⟩) ∧ (∀ b o, b < W.heap.size → w1.frozen? ⟨b, o, none⟩ = W.frozen? ⟨b, o, none⟩) :=
  ⟨fun b o h => hb.cell (p := ⟨b, o, none⟩) h, fun b o h => hb.frozen (p := ⟨b, o, none⟩) h⟩
theorem name_world {P : Program} {c : Code} {Q : Exit → Act → World → Prop} {a : Act} {w : World} (h : ∀ W, W = w → Code.wp P c Q a W) : Code.wp P c Q a w := h w rfl
theorem below_tr {B : Nat} {w wm w3 : World} (h2 : Below wm.heap.size wm w3) (h1 : Below B w wm) (hB : B ≤ w.heap.size) : Below B w w3 := h1.trans (h2.mono (Nat.le_trans hB h1.size))
theorem below_al {B : Nat} {a w : World} (h : Below B a w) (hB : B ≤ a.heap.size) (o : Obj) : Below B a (w.alloc o) := h.alloc (Nat.le_trans hB h.size) o
theorem below_dN {B : Nat} {a w : World} (h : Below B a w) (n : Nat) : Below B a (w.drewN n) := ⟨h.os, h.tape, h.output, h.size, h.block⟩
theorem below_drewN (B : Nat) (w : World) (n : Nat) : Below B w (w.drewN n) := ⟨rfl, rfl, rfl, Nat.le_refl _, fun _ _ => rfl⟩
theorem keep0 (W : World) : Below W.heap.size W W.drew ∧ ∀ a : Addr, a.block < W.heap.size → W.drew.cell? a = W.cell? a :=
  ⟨(Below.refl _ _).drew, fun _ _ => rfl⟩
theorem keep1 {B : Nat} {W w1 w2 : World} (h2 : Below w1.heap.size w1 w2) (h1 : Below B W w1) (hB : B ≤ w1.heap.size) : Below B W w2 ∧ ∀ a : Addr, a.block < B → w2.cell? a = W.cell? a :=
  have h := h1.trans (h2.mono hB)
  ⟨h, fun _ hb => h.cell hb⟩
theorem keepB {B : Nat} {W w2 : World} (h : Below B W w2) : Below B W w2 ∧ ∀ a : Addr, a.block < B → w2.cell? a = W.cell? a :=
  ⟨h, fun _ hb => h.cell hb⟩
/-- behind an append to a row of the call's own -/
theorem below_app {base size n : Nat} {e : TypeId} {w0 W w3 : World} {v : Value} {xs : List Value} (hb : Below base w0 W) (hbase : base ≤ W.heap.size) (hown : W.ownsRow base e size v n xs) (hg : W.grownBy w3 v.ownBlock) : Below base w0 w3 :=
  hb.grown hg hbase fun k hk => by
    rcases hown.2 with ⟨rfl, _⟩ | ⟨g, cap, cur, rfl, hg', _⟩
    · simp [Value.ownBlock] at hk
    · have : g = k := by simpa [Value.ownBlock] using hk
      omega
/-- behind a step inside a region: two Belows in one -/
theorem below2 {W w1 w2 : World} (h1 : Below W.heap.size W w1) (h2 : Below w1.heap.size w1 w2) : Below W.heap.size W w2 := h1.trans (h2.mono h1.size)

namespace OpenArg
open Go.ChangeShapes Go.WideShapes Go.Deep
variable {H : Type} {enc : TypeId × Value → H} {P : Program} {W : World} {base : Nat} {spare : Nat → Bool} {held : Bool}
/-- A slice of whole numbers that came in. -/
theorem ints {t e : TypeId} {k : IntKind} {a : Option Addr} {len cap : Nat} {d : DataW H} {ps : List MemPlace} (hu : P.underlying t = some (.slice e)) (he : P.underlying e = some (.int k)) (hc : P.cellsOf e = 1)
    (h : DataW.Trod enc P W base spare held t (.slice a len cap) d ps) : ∃ zs, Rd k W a len zs ∧ (∀ x ∈ zs, (Lit.int k x).wf = true) ∧ len ≤ cap ∧ (a = none → cap = 0) := by
  obtain ⟨fuel, hf⟩ := h
  rcases open_ints hu he hc hf with ⟨hcs, _⟩ | ⟨x, l, c, zs, hcs, _, hl, hm, hz, hx, hcell, hwz⟩
  · simp [Value.cells] at hcs
    obtain ⟨rfl, rfl, rfl⟩ := hcs
    exact ⟨[], ⟨rfl, by omega, fun h => absurd h (by omega)⟩, by simp, by omega, fun _ => rfl⟩
  · simp [Value.cells] at hcs
    obtain ⟨rfl, rfl, rfl⟩ := hcs
    have hl2 : len ≤ zs.length := by
      rw [hz]; split <;> omega
    refine ⟨zs.take len, ⟨by simp; omega, by simp only [maxLen] at hm; omega, fun _ => ⟨x, rfl, fun j hj => ?_⟩⟩, fun y hy => hwz y (List.mem_of_mem_take hy), hl, fun h => by cases h⟩
    rw [hcell j (by omega)]
    simp [rdI, List.getD, hj]
/-- .. takes no more than its weight. -/
theorem sized {t e : TypeId} {k : IntKind} {a : Option Addr} {len cap : Nat} {d : DataW H} {ps : List MemPlace} {ts : List TypeId} {ds : List (DataW H)} {j : Nat}
    (hsz : (DataW.weightsEach P ts ds).all (· ≤ reachBytes) = true) (ht : ts[j]? = some t) (hd : ds[j]? = some d) (hu : P.underlying t = some (.slice e)) (he : P.underlying e = some (.int k)) (hc : P.cellsOf e = 1) {B : Nat} (hB : P.bytesOf e = B)
    (h : DataW.Trod enc P W base spare held t (.slice a len cap) d ps) : len * B ≤ 140737488351232 := by
  obtain ⟨fuel, hf⟩ := h
  rcases open_ints hu he hc hf with ⟨hcs, _⟩ | ⟨x, l, c, zs, hcs, _, hl, _, hz, hx, _, _⟩
  · simp [Value.cells] at hcs
    obtain ⟨rfl, rfl, rfl⟩ := hcs
    simp
  · simp [Value.cells] at hcs
    obtain ⟨rfl, rfl, rfl⟩ := hcs
    obtain ⟨hx, _⟩ := Prod.mk.inj hx
    subst hx
    have z := sized_slice hsz ht hd hu
    rw [hB] at z
    have hl2 : len ≤ zs.length := by
      rw [hz]
      split
      · exact hl
      · exact Nat.le_refl _
    have h1 : (lits (H := H) k (zs.take len)).length + (lits (H := H) k (zs.drop len)).length = zs.length := by
      simp [lits]
      omega
    rw [h1] at z
    exact Nat.le_trans (Nat.mul_le_mul_right _ hl2) z
/-- A field of a struct that came in. -/
theorem field {t : TypeId} {fuel : Nat} {cs : List Value} {x : DataW H × List MemPlace} {fs : Array Field} (ht : P.underlying t = some (.struct fs)) (h : DataW.trod enc P W base spare held fuel t cs = some x)
    (i ft off m : Nat) (hf : (fs[i]?).map (fun f => (f.type, f.offset)) = some (ft, off)) (hm : P.cellsOf ft = m) : ∃ n y, DataW.trod enc P W base spare held n ft ((cs.drop off).take m) = some y := by
  obtain ⟨xs, n, _, rfl, hl, hlen, hh⟩ := DataW.trod_struct ht h
  obtain ⟨f, hg, he⟩ := Option.map_eq_some_iff.1 hf
  obtain ⟨rfl, rfl⟩ := Prod.mk.inj he
  have hi : i < xs.length := by rw [hlen]; exact (Array.getElem?_eq_some_iff.1 hg).1
  exact ⟨n, xs[i], by rw [← hm, hh i f hg, List.getElem?_eq_getElem hi]⟩
theorem cells_len {t : TypeId} {fuel : Nat} {cs : List Value} {x : DataW H × List MemPlace} {fs : Array Field} (ht : P.underlying t = some (.struct fs)) (h : DataW.trod enc P W base spare held fuel t cs = some x) : cs.length = P.cellsOf t := by
  obtain ⟨xs, n, _, rfl, hl, hlen, hh⟩ := DataW.trod_struct ht h
  exact hl
/-- A bool's cell. -/
theorem bool_cell {t : TypeId} {fuel : Nat} {cs : List Value} {x : DataW H × List MemPlace} (ht : P.underlying t = some .bool) (h : DataW.trod enc P W base spare held fuel t cs = some x) : ∃ b, cs = [.bool b] := by
  cases fuel with
  | zero => simp [DataW.trod] at h
  | succ n =>
    unfold DataW.trod at h
    rw [ht] at h
    split at h <;> simp_all
theorem cells_get {w : World} {base n : Nat} {a : Addr} {cs : List Value} (h : w.cells? base a n = some cs) : cs.length = n ∧ ∀ j v, cs[j]? = some v → w.cell? (a.add j) = some v := by
  unfold World.cells? at h
  split at h
  · have hl := mapM_some_length h
    rw [List.length_range] at hl
    refine ⟨hl, fun j v hj => ?_⟩
    have hjn : j < n := by rw [← hl]; exact (List.getElem?_eq_some_iff.1 hj).1
    have := mapM_some_get h j j (by simp [hjn])
    rw [this]; exact hj
  · cases h
/-- A slice of structs that came in: each element's cells, read. -/
theorem structs {t e m : Nat} {fs : Array Field} {a : Option Addr} {len cap : Nat} {d : DataW H} {ps : List MemPlace} (hu : P.underlying t = some (.slice e)) (_he : P.underlying e = some (.struct fs)) (hm : P.cellsOf e = m)
    (h : DataW.Trod enc P W base spare held t (.slice a len cap) d ps) :
    len ≤ cap ∧ len ≤ 9223372036854775807 ∧ (a = none → cap = 0) ∧ (0 < len → ∃ ad, a = some ad) ∧
      ∀ ad, a = some ad → ∀ i, i < len → ∃ cs n y, cs.length = m ∧ (∀ j v, cs[j]? = some v → W.cell? ((ad.add (i * m)).add j) = some v) ∧ DataW.trod enc P W base spare held n e cs = some y := by
  obtain ⟨fuel, hf⟩ := h
  rcases open_slice hu hf with ⟨hcs, _⟩ | ⟨a', l', c', m', n, D, Pl, hcs, _, hl, hmx, hm', _, hel⟩
  · simp [Value.cells] at hcs
    obtain ⟨rfl, rfl, rfl⟩ := hcs
    exact ⟨Nat.le_refl _, by omega, fun _ => rfl, fun h => absurd h (by omega), (fun ad h => by cases h)⟩
  · simp [Value.cells] at hcs
    obtain ⟨rfl, rfl, rfl⟩ := hcs
    refine ⟨hl, (by simp only [maxLen] at hmx; omega), (fun h => by cases h), (fun _ => ⟨_, rfl⟩), fun ad h i hi => ?_⟩
    obtain rfl := Option.some.inj h
    have hi' : i < m' := by rw [hm']; split <;> omega
    obtain ⟨cs', h1, h2⟩ := hel i hi'
    rw [hm] at h1
    obtain ⟨h3, h4⟩ := cells_get h1
    exact ⟨cs', n, _, h3, h4, h2⟩
/-- Out of one for each place a list. -/
theorem list_of {α : Type} (dflt : α) (n : Nat) (p : Nat → α → Prop) (h : ∀ i, i < n → ∃ x, p i x) : ∃ zs : List α, zs.length = n ∧ ∀ i, i < n → p i (zs.getD i dflt) := by
  induction n with
  | zero => exact ⟨[], rfl, fun i hi => absurd hi (by omega)⟩
  | succ n ih =>
    obtain ⟨zs, h1, h2⟩ := ih fun i hi => h i (by omega)
    obtain ⟨x, hx⟩ := h n (by omega)
    refine ⟨zs ++ [x], by simp [h1], fun i hi => ?_⟩
    by_cases hin : i < n
    · have := h2 i hin
      rw [List.getD_eq_getElem?_getD] at this ⊢
      rwa [List.getElem?_append_left (by omega)]
    · obtain rfl : i = n := by omega
      rw [List.getD_eq_getElem?_getD, List.getElem?_append_right (by omega), h1]
      simpa using hx
end OpenArg
end Go.Proofs.Ytbppdgekjdpgiaa
