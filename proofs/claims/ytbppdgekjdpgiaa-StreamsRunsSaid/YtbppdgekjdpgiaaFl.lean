/- Layer 16: the plain law of StreamsFair. -/
import Derived.Test.YtbppdgekjdpgiaaWl
namespace Go.Proofs.Ytbppdgekjdpgiaa.C
open Go.RowKit
set_option linter.unusedVariables false
set_option linter.unusedSimpArgs false

/-- stream t's place in the round behind l -/
def pos (l : Int) (t : Nat) : Int := ((t : Int) - l - 1) % 8
def unb (ms : List Msg) : Nat := ms.countP fun m => !m.begun
theorem unb_cons (m : Msg) (ms : List Msg) : unb (m :: ms) = (if m.begun then 0 else 1) + unb ms := by
  unfold unb
  rw [List.countP_cons]
  cases m.begun <;> simp <;> omega
theorem unb_snoc (m : Msg) (ms : List Msg) (h : m.begun = false) : unb (ms ++ [m]) = unb ms + 1 := by
  unfold unb
  rw [List.countP_append]
  simp [h]
structure FI (q : QS) (left : Nat → Nat) (since : Nat → Option (Nat → Bool)) : Prop where
  i : Inv q
  n : q.n = 8
  lft : ∀ t, t < 8 → left t = unb (q.ss t)
  ord : ∀ s, s < 8 → ∀ f, since s = some f → ∀ o, o < 8 → o ≠ s → 0 < left o → f o = false → pos q.last o < pos q.last s
/-- behind the beginning of a message of stream s -/
def sinceA (since : Nat → Option (Nat → Bool)) (s : Nat) : Nat → Option (Nat → Bool) := fun t => (since t).map fun f => upd f s true
def sinceN (since : Nat → Option (Nat → Bool)) (s : Nat) : Nat → Option (Nat → Bool) := upd (sinceA since s) s (some fun _ => false)
theorem FI.new : FI (newQ 8 1073741824) (fun _ => 0) (fun _ => none) :=
  ⟨Inv.new 8 1073741824 (by decide) (by decide) (by decide) (by decide), rfl, fun t ht => rfl, fun s hs f h => by cases h⟩
section
variable {q : QS} {left : Nat → Nat} {since : Nat → Option (Nat → Bool)} {s : Nat} {m : Msg} {ms : List Msg}
theorem FI.push (h : FI q left (fun _ => none)) (s : Nat) (proto : Int) (un : Bool) (xs : List Int) (he : pushE q s xs.length = 0) : FI (pushQ q s proto un xs) (upd left s (left s + 1)) (fun _ => none) := by
  obtain ⟨h1, h2, h3, h4⟩ := pushE_0 he
  refine ⟨h.i.push s proto un xs h1 h2 h3 h4, h.n, fun t ht => ?_, fun s hs f h => by cases h⟩
  rw [pushQ_ss]
  by_cases e : t = s
  · subst e
    rw [upd_same, upd_same, unb_snoc _ _ rfl, h.lft t ht]
  · rw [upd_ne _ _ _ _ e, upd_ne _ _ _ _ e]
    exact h.lft t ht
theorem FI.none (h : FI q left since) (hn : nextF q < 0) : ∀ t, t < 8 → left t = 0 := by
  rcases next_cases h.i with ⟨h1, h2, h3⟩ | ⟨s, m, ms, h1, _⟩
  · intro t ht
    rw [h.lft t ht, h3 t (by rw [h.n]; exact ht)]
    rfl
  · omega
theorem takeQ_last (q : QS) (s : Nat) (m : Msg) (ms : List Msg) (x : Nat) : (takeQ q s m ms x).last = if m.begun then q.last else (s : Int) := by
  unfold takeQ begQ
  cases m.begun <;> (split <;> rfl)
/-- the message goes on -/
theorem FI.cont (h : FI q left since) (hs : s < q.n) (he : q.ss s = m :: ms) (hc : q.opn = s ∧ m.begun = true) (x : Nat) (h0 : 1 ≤ x) : FI (takeQ q s m ms x) left since := by
  refine ⟨h.i.take s m ms x hs he (.inl hc) h0, (takeQ_f q s m ms x).1.trans h.n, fun t ht => ?_, fun s2 h2 f hf o ho hne hl hfo => ?_⟩
  · by_cases e : t = s
    · subst e
      have hl := h.lft t ht
      rw [he, unb_cons, if_pos hc.2, Nat.zero_add] at hl
      by_cases hx : m.data.length ≤ x
      · rw [(takeQ_end q t m ms x hx).1]; exact hl
      · rw [(takeQ_mid q t m ms x (by omega) (.inl hc)).1, unb_cons, if_pos (begM_f q t m).2.1, Nat.zero_add]
        exact hl
    · rw [takeQ_ss_ne q s m ms x t e]; exact h.lft t ht
  · rw [takeQ_last, if_pos hc.2]
    exact h.ord s2 h2 f hf o ho hne hl hfo
theorem pos_rnd (hn : q.n = 8) (k : Ok q) (t : Nat) (ht : t < 8) : 0 ≤ pos q.last t ∧ pos q.last t < 8 ∧ rndN q (pos q.last t).toNat = t := by
  unfold pos rndN
  rw [hn]
  have := k.l0
  have := k.l1
  refine ⟨by omega, by omega, ?_⟩
  omega
theorem rnd_pos (hn : q.n = 8) (k : Ok q) (i s : Nat) (hi : i < 8) (h : rndN q i = s) : pos q.last s = i := by
  unfold rndN at h
  rw [hn] at h
  unfold pos
  have := k.l0
  have := k.l1
  omega
/-- what is ahead of the one that is begun is empty -/
theorem FI.ahead (h : FI q left since) {i : Nat} (hi : i < q.n) (hr : rndN q i = s) (hj : ∀ j, j < i → q.ss (rndN q j) = []) (o : Nat) (ho : o < 8) (hne : o ≠ s) (hl : 0 < left o) : pos q.last s < pos q.last o := by
  have hi8 : i < 8 := by rw [← h.n]; exact hi
  have hp := rnd_pos h.n h.i.ok i s hi8 hr
  obtain ⟨p0, p1, p2⟩ := pos_rnd h.n h.i.ok o ho
  have hne' : q.ss o ≠ [] := fun e => by
    have := h.lft o ho
    rw [e] at this
    simp [unb] at this
    omega
  rcases Int.lt_trichotomy (pos q.last o) (pos q.last s) with h1 | h1 | h1
  · have := hj (pos q.last o).toNat (by omega)
    rw [p2] at this
    exact absurd this hne'
  · exfalso
    apply hne
    rw [← p2, ← hr]
    congr 1
    omega
  · exact h1
/-- a message is begun: each other stream that has one was begun since the last one of its stream -/
theorem FI.fair (h : FI q left since) (hs : s < q.n) {i : Nat} (hi : i < q.n) (hr : rndN q i = s) (hj : ∀ j, j < i → q.ss (rndN q j) = []) (f : Nat → Bool) (hf : since s = some f) (o : Nat) (ho : o < 8) (hne : o ≠ s) (hl : 0 < left o) : f o = true := by
  have h1 := h.ahead hi hr hj o ho hne hl
  cases e : f o with
  | true => rfl
  | false =>
    have := h.ord s (by rw [← h.n]; exact hs) f hf o ho hne hl e
    omega
theorem FI.beg (h : FI q left since) (hs : s < q.n) (he : q.ss s = m :: ms) (hc : q.opn < 0 ∧ m.begun = false) {i : Nat} (hi : i < q.n) (hr : rndN q i = s) (hj : ∀ j, j < i → q.ss (rndN q j) = []) (x : Nat) (h0 : 1 ≤ x) :
    0 < left s ∧ FI (takeQ q s m ms x) (upd left s (left s - 1)) (sinceN since s) := by
  have hs8 : s < 8 := by rw [← h.n]; exact hs
  have hls := h.lft s hs8
  rw [he, unb_cons, hc.2] at hls
  simp at hls
  refine ⟨by omega, h.i.take s m ms x hs he (.inr hc) h0, (takeQ_f q s m ms x).1.trans h.n, fun t ht => ?_, fun s2 h2 f hf o ho hne hl hfo => ?_⟩
  · by_cases e : t = s
    · subst e
      rw [upd_same]
      by_cases hx : m.data.length ≤ x
      · rw [(takeQ_end q t m ms x hx).1]; omega
      · rw [(takeQ_mid q t m ms x (by omega) (.inr hc)).1, unb_cons, if_pos (begM_f q t m).2.1]
        omega
    · rw [upd_ne _ _ _ _ e, takeQ_ss_ne q s m ms x t e]; exact h.lft t ht
  · rw [takeQ_last, hc.2]
    simp only [Bool.false_eq_true, if_false]
    have hlo : ∀ t, t ≠ s → upd left s (left s - 1) t = left t := fun t e => upd_ne _ _ _ _ e
    by_cases e2 : s2 = s
    · subst e2
      unfold pos
      omega
    · unfold sinceN at hf
      rw [upd_ne _ _ _ _ e2] at hf
      unfold sinceA at hf
      cases hq : since s2 with
      | none => rw [hq] at hf; cases hf
      | some f0 =>
        rw [hq] at hf
        simp only [Option.map_some, Option.some.injEq] at hf
        subst hf
        by_cases eo : o = s
        · subst eo
          rw [upd_same] at hfo
          cases hfo
        · rw [upd_ne _ _ _ _ eo] at hfo
          rw [hlo o eo] at hl
          have h3 := h.ord s2 h2 f0 hq o ho hne hl hfo
          have h4 := h.ahead hi hr hj o ho eo hl
          have := h.i.ok.l0
          have := h.i.ok.l1
          have := h.n
          unfold pos at h3 h4 ⊢
          omega
end
