/- Layer 16: StreamsFair's rows in memory. -/
import Derived.Test.YtbppdgekjdpgiaaFl
namespace Go.Proofs.Ytbppdgekjdpgiaa.C
open Go.RowKit
set_option linter.unusedVariables false
set_option linter.unusedSimpArgs false

/-- the row of what is left -/
def LR (wr : World) (bL : Nat) (left : Nat → Nat) : Prop := ∃ arr : Array Value, wr.heap[bL]? = some (.cells arr 3 (0, 0)) ∧ arr.size = 8 ∧ ∀ t, t < 8 → arr[t]? = some (.int .i64 (left t))
/-- stream t's row -/
def rv (since : Nat → Option (Nat → Bool)) (rb : Nat → Nat) (t : Nat) : Value := match since t with
  | none => .slice none 0 0
  | some _ => .slice (some ⟨rb t, 0, none⟩) 8 8
def SR (wr : World) (bS : Nat) (since : Nat → Option (Nat → Bool)) (rb : Nat → Nat) : Prop := ∃ arr : Array Value, wr.heap[bS]? = some (.cells arr 42 (0, 0)) ∧ arr.size = 8 ∧ ∀ t, t < 8 → arr[t]? = some (rv since rb t)
def BR (wr : World) (b : Nat) (f : Nat → Bool) : Prop := ∃ arr : Array Value, wr.heap[b]? = some (.cells arr 4 (0, 0)) ∧ arr.size = 8 ∧ ∀ o, o < 8 → arr[o]? = some (.bool (f o))
theorem LR.keep {w w' : World} {b : Nat} {l : Nat → Nat} (h : LR w b l) (e : w'.heap[b]? = w.heap[b]?) : LR w' b l := by
  obtain ⟨arr, h1, h2⟩ := h; exact ⟨arr, e.trans h1, h2⟩
theorem SR.keep {w w' : World} {b : Nat} {l : Nat → Option (Nat → Bool)} {rb : Nat → Nat} (h : SR w b l rb) (e : w'.heap[b]? = w.heap[b]?) : SR w' b l rb := by
  obtain ⟨arr, h1, h2⟩ := h; exact ⟨arr, e.trans h1, h2⟩
theorem BR.keep {w w' : World} {b : Nat} {f : Nat → Bool} (h : BR w b f) (e : w'.heap[b]? = w.heap[b]?) : BR w' b f := by
  obtain ⟨arr, h1, h2⟩ := h; exact ⟨arr, e.trans h1, h2⟩
theorem LR.lt {w : World} {b : Nat} {l : Nat → Nat} (h : LR w b l) : b < w.heap.size := by obtain ⟨arr, h1, _⟩ := h; exact lt_of_heap h1
theorem SR.lt {w : World} {b : Nat} {l : Nat → Option (Nat → Bool)} {rb : Nat → Nat} (h : SR w b l rb) : b < w.heap.size := by obtain ⟨arr, h1, _⟩ := h; exact lt_of_heap h1
theorem BR.lt {w : World} {b : Nat} {f : Nat → Bool} (h : BR w b f) : b < w.heap.size := by obtain ⟨arr, h1, _⟩ := h; exact lt_of_heap h1
theorem LR.set {w : World} {b : Nat} {l : Nat → Nat} (h : LR w b l) (s v : Nat) : LR (w.setCell ⟨b, s, none⟩ (.int .i64 v)) b (upd l s v) := by
  obtain ⟨arr, h1, h2, h3⟩ := h
  refine ⟨_, heap_setCell_same w b s arr 3 _ h1, by simpa using h2, fun t ht => ?_⟩
  by_cases e : t = s
  · subst e
    rw [upd_same, Array.getElem?_setIfInBounds_self]
    simp [h2, ht]
  · rw [upd_ne _ _ _ _ e, Array.getElem?_setIfInBounds_ne (by omega)]
    exact h3 t ht
theorem BR.set {w : World} {b : Nat} {f : Nat → Bool} (h : BR w b f) (s : Nat) (v : Bool) : BR (w.setCell ⟨b, s, none⟩ (.bool v)) b (upd f s v) := by
  obtain ⟨arr, h1, h2, h3⟩ := h
  refine ⟨_, heap_setCell_same w b s arr 4 _ h1, by simpa using h2, fun t ht => ?_⟩
  by_cases e : t = s
  · subst e
    rw [upd_same, Array.getElem?_setIfInBounds_self]
    simp [h2, ht]
  · rw [upd_ne _ _ _ _ e, Array.getElem?_setIfInBounds_ne (by omega)]
    exact h3 t ht
theorem SR.set {w : World} {b : Nat} {l : Nat → Option (Nat → Bool)} {rb : Nat → Nat} (h : SR w b l rb) (s n : Nat) (f : Nat → Bool) : SR (w.setCell ⟨b, s, none⟩ (.slice (some ⟨n, 0, none⟩) 8 8)) b (upd l s (some f)) (upd rb s n) := by
  obtain ⟨arr, h1, h2, h3⟩ := h
  refine ⟨_, heap_setCell_same w b s arr 42 _ h1, by simpa using h2, fun t ht => ?_⟩
  by_cases e : t = s
  · subst e
    unfold rv
    rw [upd_same, upd_same, Array.getElem?_setIfInBounds_self]
    simp [h2, ht]
  · unfold rv
    rw [upd_ne _ _ _ _ e, upd_ne _ _ _ _ e, Array.getElem?_setIfInBounds_ne (by omega)]
    exact h3 t ht
/-- while messages are pushed -/
structure FM1 (w wr : World) (g bL : Nat) (q : QS) (left : Nat → Nat) : Prop where
  oq : OQ wr w.heap.size g q (fun b => b = bL)
  b : Below w.heap.size w wr
  l : LR wr bL left
  lo : w.heap.size ≤ bL
section
variable {w wr w' : World} {g bL bS : Nat} {q q' : QS} {left : Nat → Nat} {since : Nat → Option (Nat → Bool)} {rb : Nat → Nat}
theorem FM1.stp (h : FM1 w wr g bL q left) (hs : Stp wr w' w.heap.size g q' (fun b => b = bL)) : FM1 w w' g bL q' left :=
  ⟨hs.same fun b hb => by rw [hb]; exact h.l.lt, h.b.trans hs.below, h.l.keep (hs.keep _ h.l.lt rfl), h.lo⟩
theorem FM1.bel (h : FM1 w wr g bL q left) (hb : Below wr.heap.size wr w') : FM1 w w' g bL q left := h.stp (Stp.of h.oq hb)
theorem FM1.set (h : FM1 w wr g bL q left) (s v : Nat) : FM1 w (wr.setCell ⟨bL, s, none⟩ (.int .i64 v)) g bL q (upd left s v) :=
  ⟨h.oq.set bL s _ rfl, h.b.setCell h.lo _, h.l.set s v, h.lo⟩
/-- a foreign block of FM -/
def FF (bL bS : Nat) (since : Nat → Option (Nat → Bool)) (rb : Nat → Nat) (b : Nat) : Prop := b = bL ∨ b = bS ∨ ∃ t, t < 8 ∧ since t ≠ none ∧ rb t = b
structure FM (w wr : World) (g bL bS : Nat) (q : QS) (left : Nat → Nat) (since : Nat → Option (Nat → Bool)) (rb : Nat → Nat) : Prop where
  oq : OQ wr w.heap.size g q (FF bL bS since rb)
  b : Below w.heap.size w wr
  l : LR wr bL left
  s : SR wr bS since rb
  r : ∀ t, t < 8 → ∀ f, since t = some f → BR wr (rb t) f
  ne : bL ≠ bS
  ne2 : ∀ t, t < 8 → since t ≠ none → rb t ≠ bL ∧ rb t ≠ bS ∧ w.heap.size ≤ rb t
  inj : ∀ t t', t < 8 → t' < 8 → since t ≠ none → since t' ≠ none → rb t = rb t' → t = t'
  lo : w.heap.size ≤ bL
  lo2 : w.heap.size ≤ bS
theorem FM.lt (h : FM w wr g bL bS q left since rb) : ∀ b, FF bL bS since rb b → b < wr.heap.size := fun b hb => by
  rcases hb with rfl | rfl | ⟨t, ht, hn, rfl⟩
  · exact h.l.lt
  · exact h.s.lt
  · cases e : since t with
    | none => exact absurd e hn
    | some f => exact (h.r t ht f e).lt
theorem FM.stp (h : FM w wr g bL bS q left since rb) (hs : Stp wr w' w.heap.size g q' (FF bL bS since rb)) : FM w w' g bL bS q' left since rb :=
  { oq := hs.same h.lt, b := h.b.trans hs.below, l := h.l.keep (hs.keep _ h.l.lt (.inl rfl)), s := h.s.keep (hs.keep _ h.s.lt (.inr (.inl rfl))), r := fun t ht f e => (h.r t ht f e).keep (hs.keep _ (h.r t ht f e).lt (.inr (.inr ⟨t, ht, by rw [e]; simp, rfl⟩))), ne := h.ne, ne2 := h.ne2, inj := h.inj, lo := h.lo, lo2 := h.lo2 }
theorem FM.bel (h : FM w wr g bL bS q left since rb) (hb : Below wr.heap.size wr w') : FM w w' g bL bS q left since rb := h.stp (Stp.of h.oq hb)
theorem FM.setL (h : FM w wr g bL bS q left since rb) (s v : Nat) : FM w (wr.setCell ⟨bL, s, none⟩ (.int .i64 v)) g bL bS q (upd left s v) since rb :=
  { oq := h.oq.set bL s _ (.inl rfl), b := h.b.setCell h.lo _, l := h.l.set s v, s := h.s.keep (heap_setCell_other wr ⟨bL, s, none⟩ bS _ (fun e => h.ne e.symm)), r := fun t ht f e => (h.r t ht f e).keep (heap_setCell_other wr ⟨bL, s, none⟩ (rb t) _ (fun e2 => (h.ne2 t ht (by rw [e]; simp)).1 e2)), ne := h.ne, ne2 := h.ne2, inj := h.inj, lo := h.lo, lo2 := h.lo2 }
theorem FM.setR (h : FM w wr g bL bS q left since rb) (o s : Nat) (ho : o < 8) (f : Nat → Bool) (hf : since o = some f) : FM w (wr.setCell ⟨rb o, s, none⟩ (.bool true)) g bL bS q left (upd since o (some (upd f s true))) rb := by
  have hno : since o ≠ none := by rw [hf]; simp
  obtain ⟨n1, n2, n3⟩ := h.ne2 o ho hno
  have hnn : ∀ t, upd since o (some (upd f s true)) t ≠ none → since t ≠ none := fun t ht => by
    by_cases e : t = o
    · subst e; exact hno
    · rwa [upd_ne _ _ _ _ e] at ht
  refine { oq := (h.oq.set (rb o) s _ (.inr (.inr ⟨o, ho, hno, rfl⟩))).mono fun b hb => ?_, b := h.b.setCell n3 _, l := h.l.keep (heap_setCell_other wr ⟨rb o, s, none⟩ bL _ (fun e => n1 e.symm)), s := ?_, r := fun t ht f' e => ?_, ne := h.ne, ne2 := fun t ht hn => h.ne2 t ht (hnn t hn), inj := fun t t' ht ht' hn hn' => h.inj t t' ht ht' (hnn t hn) (hnn t' hn'), lo := h.lo, lo2 := h.lo2 }
  · rcases hb with hb | hb | ⟨t, ht, hn, hb⟩
    · exact .inl hb
    · exact .inr (.inl hb)
    · exact .inr (.inr ⟨t, ht, hnn t hn, hb⟩)
  · obtain ⟨arr, h1, h2, h3⟩ := h.s
    refine ⟨arr, (heap_setCell_other wr ⟨rb o, s, none⟩ bS _ (fun e => n2 e.symm)).trans h1, h2, fun t ht => ?_⟩
    rw [h3 t ht]
    unfold rv
    by_cases e : t = o
    · subst e; rw [upd_same, hf]
    · rw [upd_ne _ _ _ _ e]
  · by_cases e2 : t = o
    · subst e2
      rw [upd_same] at e
      injection e with e
      subst e
      exact (h.r t ht f hf).set s true
    · rw [upd_ne _ _ _ _ e2] at e
      exact (h.r t ht f' e).keep (heap_setCell_other wr ⟨rb o, s, none⟩ (rb t) _ (fun e3 => e2 (h.inj t o ht ho (by rw [e]; simp) hno e3)))
theorem FM.newR (h : FM w wr g bL bS q left since rb) (s : Nat) (hs : s < 8) : FM w ((wr.alloc (.cells (madeCells #[.bool false] 8) 4)).setCell ⟨bS, s, none⟩ (.slice (some ⟨wr.heap.size, 0, none⟩) 8 8)) g bL bS q left (upd since s (some fun _ => false)) (upd rb s wr.heap.size) := by
  have hal : Below wr.heap.size wr (wr.alloc (.cells (madeCells #[.bool false] 8) 4)) := (Below.refl _ _).alloc (Nat.le_refl _) _
  have hlt := h.lt
  have keep : ∀ b, b < wr.heap.size → b ≠ bS → ((wr.alloc (.cells (madeCells #[.bool false] 8) 4)).setCell ⟨bS, s, none⟩ (.slice (some ⟨wr.heap.size, 0, none⟩) 8 8)).heap[b]? = wr.heap[b]? := fun b hb hne => (heap_setCell_other _ ⟨bS, s, none⟩ b _ (fun e => hne e)).trans (hal.block b hb)
  have hsl := h.s.lt
  have hll := h.l.lt
  have hrl : ∀ t, t < 8 → since t ≠ none → rb t < wr.heap.size := fun t ht hn => hlt _ (.inr (.inr ⟨t, ht, hn, rfl⟩))
  refine { oq := (((h.oq.below hal).mono (F' := fun b => b = wr.heap.size ∨ FF bL bS since rb b) fun b hb => ?_).set bS s _ (.inr (.inr (.inl rfl)))).mono fun b hb => ?_, b := (h.b.alloc h.b.size _).setCell h.lo2 _, l := h.l.keep (keep bL hll h.ne), s := ?_, r := fun t ht f e => ?_, ne := h.ne, ne2 := fun t ht hn => ?_, inj := fun t t' ht ht' hn hn' e => ?_, lo := h.lo, lo2 := h.lo2 }
  · rcases hb with rfl | hb
    · exact .inr (Nat.le_refl _)
    · exact .inl ⟨hlt b hb, hb⟩
  · rcases hb with hb | hb | ⟨t, ht, hn, hb⟩
    · exact .inr (.inl hb)
    · exact .inr (.inr (.inl hb))
    · by_cases e : t = s
      · subst e; rw [upd_same] at hb; exact .inl hb.symm
      · rw [upd_ne _ _ _ _ e] at hb hn; exact .inr (.inr (.inr ⟨t, ht, hn, hb⟩))
  · exact (h.s.keep (hal.block bS hsl)).set s wr.heap.size (fun _ => false)
  · by_cases e2 : t = s
    · subst e2
      rw [upd_same] at e ⊢
      injection e with e
      subst e
      refine ⟨_, (heap_setCell_other _ ⟨bS, t, none⟩ wr.heap.size _ (fun e => by have : wr.heap.size = bS := e; omega)).trans (heap_alloc_new _ _), made_size _ _, fun o ho => made_get _ _ _ ho⟩
    · rw [upd_ne _ _ _ _ e2] at e ⊢
      have := h.r t ht f e
      exact this.keep (keep _ this.lt (h.ne2 t ht (by rw [e]; simp)).2.1)
  · by_cases e : t = s
    · subst e
      rw [upd_same]
      have := h.b.size
      exact ⟨by omega, by omega, this⟩
    · rw [upd_ne _ _ _ _ e] at hn ⊢
      exact h.ne2 t ht hn
  · by_cases e1 : t = s
    · by_cases e2 : t' = s
      · rw [e1, e2]
      · subst e1
        rw [upd_same, upd_ne _ _ _ _ e2] at e
        rw [upd_ne _ _ _ _ e2] at hn'
        have := hrl t' ht' hn'
        omega
    · by_cases e2 : t' = s
      · subst e2
        rw [upd_same, upd_ne _ _ _ _ e1] at e
        rw [upd_ne _ _ _ _ e1] at hn
        have := hrl t ht hn
        omega
      · rw [upd_ne _ _ _ _ e1, upd_ne _ _ _ _ e2] at e
        rw [upd_ne _ _ _ _ e1] at hn
        rw [upd_ne _ _ _ _ e2] at hn'
        exact h.inj t t' ht ht' hn hn' e
/-- the row of rows is made -/
theorem FM1.made (h : FM1 w wr g bL q left) (rb : Nat → Nat) : FM w (wr.alloc (.cells (madeCells #[.slice none 0 0] 8) 42)) g bL wr.heap.size q left (fun _ => none) rb := by
  have hal : Below wr.heap.size wr (wr.alloc (.cells (madeCells #[.slice none 0 0] 8) 42)) := (Below.refl _ _).alloc (Nat.le_refl _) _
  have hll := h.l.lt
  exact { oq := (h.oq.below hal).mono fun b hb => (by
            rcases hb with rfl | rfl | ⟨t, _, hn, _⟩
            · exact .inl ⟨hll, rfl⟩
            · exact .inr (Nat.le_refl _)
            · exact absurd rfl hn), b := h.b.trans (hal.mono h.b.size), l := h.l.keep (hal.block _ hll), s := ⟨_, heap_alloc_new _ _, made_size _ _, fun t ht => made_get _ _ _ ht⟩, r := fun t ht f e => (by cases e), ne := (by omega), ne2 := fun t ht hn => absurd rfl hn, inj := fun t t' _ _ hn => absurd rfl hn, lo := h.lo, lo2 := h.b.size }
end
