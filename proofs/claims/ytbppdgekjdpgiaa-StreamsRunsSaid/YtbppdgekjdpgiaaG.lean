/- Layer 16: next. -/
import Derived.Test.YtbppdgekjdpgiaaF
namespace Go.Proofs.Ytbppdgekjdpgiaa.C
open Go.RowKit Go.Shelf
set_option linter.unusedVariables false
set_option linter.unusedSimpArgs false
attribute [local go_sem] Oper.semAt_some

/-- the next stream: the open one; else the first of the round that has a message; below 0: none -/
def rndN (q : QS) (i : Nat) : Nat := ((q.last + 1 + i) % q.n).toNat
def nextF (q : QS) : Int := if 0 ≤ q.opn then q.opn else (((upto (rndN q) q.n).find? fun s => decide (0 < (q.ss s).length)).map fun s => (s : Int)).getD (-1)
/-- what may be of a queue -/
structure Ok (q : QS) : Prop where
  n0 : 1 ≤ q.n
  n1 : q.n ≤ 1024
  m0 : 1 ≤ q.lim
  m1 : q.lim ≤ 1073741824
  w0 : 0 ≤ q.wai
  t0 : 0 ≤ q.tak
  wt : q.wai + q.tak ≤ q.lim
  l0 : -1 ≤ q.last
  l1 : q.last < q.n
  o0 : -1 ≤ q.opn
  o1 : q.opn < q.n
set_option maxHeartbeats 1000000 in
theorem next_open (base g : Nat) (q : QS) (L : Lay) (w : World) (h : QM w base g q L) (ho : 0 ≤ q.opn) : Calls Try.prog 23 #[.pointer (some ⟨g, 0, none⟩)] w fun e w' => e = .returned (.int .i64 q.opn) ∧ Below w.heap.size w w' := by
  have c6 := h.cells.c6
  have hg := h.cells.lt
  clear h
  go_enter Try.func23, Try.ntmps23
  go_wp2
  exact bodyPost_ret (v := .int .i64 q.opn) (by simp [results, Try.results23, go_sem]) rfl ⟨rfl, (by repeat (first | with_reducible exact Below.refl _ _ | with_reducible assumption | with_reducible refine Below.drew ?_ | with_reducible refine below_dN ?_ _ | with_reducible refine Below.setCell ?_ (by first | omega | (simp; done) | (simp; omega)) _ | with_reducible refine below_al ?_ (by first | omega | (simp; done) | (simp; omega)) _ | exact Below.refl _ _ | assumption | refine Below.drew ?_ | refine below_dN ?_ _ | refine Below.setCell ?_ (by first | omega | (simp; done) | (simp; omega)) _ | refine below_al ?_ (by first | omega | (simp; done) | (simp; omega)) _ | refine below_tr (by assumption) ?_ (by first | omega | (simp; done) | (simp; omega)) | fail))⟩
theorem rnd_lt (q : QS) (k : Ok q) (i : Nat) : 0 ≤ rnd q.last q.n i ∧ rnd q.last q.n i < q.n := by
  have := k.n0
  unfold rnd
  exact ⟨Int.emod_nonneg _ (by omega), Int.emod_lt_of_pos _ (by omega)⟩
def el (q : QS) (k : Ok q) (i : Nat) : Fin q.n := ⟨rndN q i, by have h := rnd_lt q k i; unfold rnd at h; unfold rndN; omega⟩
theorem round_stops (f : Nat) (hf : 1 ≤ f) (base g : Nat) (q : QS) (L : Lay) (k : Ok q) (Bq n₀ : Nat) (w : World) (h : QM w base g q L) (hBq : Bq < n₀) (hgn : g < n₀) (hn₀ : n₀ ≤ w.heap.size) (hc : w.cell? ⟨Bq, 0, none⟩ = some (.pointer (some ⟨g, 0, none⟩))) :
    SeqStopsK Fence.wide f Try.prog 34 #[.pointer (some ⟨Bq, 0, none⟩)] (fun x : Fin q.n => #[Value.int .i64 ((x.val : Nat) : Int)]) (Below n₀) (fun ys => ys = upto (el q k) q.n) (fun pre => pre <+: upto (el q k) q.n) q.n w := fun l J Jx W hW hJ hJx hY h0 => by
  have hl1 := k.l1
  have hn1 := k.n1
  refine (round1_in (fun x : Fin q.n => ((x.val : Nat) : Int)) (el q k) f hf l Bq n₀ g L.bl q.n q.last k.l0 (by omega) k.n0 k.n1 hBq hgn (fun i _ => by have h := rnd_lt q k i; show ((rndN q i : Nat) : Int) = _; unfold rnd at h ⊢; unfold rndN; omega) J Jx (fun pre W1 hj => hJ pre W1 W1.drew none hj ⟨rfl, rfl, rfl, Nat.le_refl _, fun _ _ _ => rfl⟩ (fun r e => by cases e)) hY W ((hW.cell (p := ⟨Bq, 0, none⟩) (Nat.lt_of_lt_of_le hBq hn₀)).trans hc) ((hW.cell (p := ⟨g, 0, none⟩) h.cells.lt).trans h.cells.c0) ((hW.cell (p := ⟨g, 5, none⟩) h.cells.lt).trans h.cells.c5) h0).mono ?_
  rintro e W' ⟨he, ⟨ys, hy, hj⟩ | ⟨pre, ⟨j, hj1, hj2⟩, hj⟩⟩
  · exact ⟨he, .inl ⟨ys, hy, hj⟩⟩
  · exact ⟨he, .inr ⟨pre, by rw [hj2]; exact upto_prefix _ hj1, hj⟩⟩
theorem round_in (n : Nat) (p : Option Addr) (w : World) :
    CallsIn Fence.wide n Try.prog 31 #[.pointer p] w fun e w' => e = .returned (.func (.func 34) #[] #[.pointer (some ⟨w.heap.size, 0, none⟩)]) ∧ w' = w.alloc (.cells #[.pointer p] 24) := by
  refine callsIn_of_wp Try.func31 rfl trivial ?_ rfl
  simp only [Try.ntmps31, List.size_toArray, List.length_cons, List.length_nil, Nat.reduceAdd, Nat.reduceSub, Array.replicate_succ, Array.replicate_zero, List.push_toArray, List.append_toArray, List.nil_append, List.cons_append]
  gi_wp2
  go_ret
  exact ⟨rfl, rfl⟩
theorem upto_el (q : QS) (k : Ok q) : upto (rndN q) q.n = (upto (el q k) q.n).map fun x => x.val := by simp [upto, el]
theorem next_found (q : QS) (k : Ok q) (ho : q.opn < 0) (pre : List (Fin q.n)) (s : Fin q.n) (hp : pre ++ [s] <+: upto (el q k) q.n) (h0 : ∀ t ∈ pre, (q.ss t.val).length = 0) (h1 : 0 < (q.ss s.val).length) : nextF q = (s.val : Int) := by
  obtain ⟨post, hp⟩ := hp
  unfold nextF
  rw [if_neg (by omega), upto_el q k, ← hp]
  simp only [List.map_append, List.find?_append, List.map_cons, List.map_nil]
  have hn : List.find? (fun s => decide (0 < (q.ss s).length)) (List.map (fun x : Fin q.n => x.val) pre) = none := by
    rw [List.find?_eq_none]
    intro y hy
    obtain ⟨t, ht, rfl⟩ := List.mem_map.1 hy
    simp [h0 t ht]
  rw [hn]
  simp [List.find?_cons, h1]
theorem next_none (q : QS) (k : Ok q) (ho : q.opn < 0) (h0 : ∀ t ∈ upto (el q k) q.n, (q.ss t.val).length = 0) : nextF q = -1 := by
  unfold nextF
  rw [if_neg (by omega), upto_el q k]
  have hn : List.find? (fun s => decide (0 < (q.ss s).length)) (List.map (fun x : Fin q.n => x.val) (upto (el q k) q.n)) = none := by
    rw [List.find?_eq_none]
    intro y hy
    obtain ⟨t, ht, rfl⟩ := List.mem_map.1 hy
    simp [h0 t ht]
  rw [hn]
  rfl
set_option maxRecDepth 100000 in
set_option maxHeartbeats 4000000 in
theorem next_loop (base g : Nat) (q : QS) (L : Lay) (k : Ok q) (w : World) (h : QM w base g q L) (ho : q.opn < 0) :
    Calls Try.prog 23 #[.pointer (some ⟨g, 0, none⟩)] w fun e w' => e = .returned (.int .i64 (nextF q)) ∧ Below w.heap.size w w' := by
  have c6 := h.cells.c6
  have hg := h.cells.lt
  have H := Lib.hid h
  have hn1 := k.n1
  clear h
  refine (callsIn_wide (n := 3)).1 ?_
  refine callsIn_of_wp_marks Try.func23 rfl trivial ?_ rfl
  simp only [Try.ntmps23, List.size_toArray, List.length_cons, List.length_nil, Nat.reduceAdd, Nat.reduceSub, Array.replicate_succ, Array.replicate_zero, List.push_toArray, List.append_toArray, List.nil_append, List.cons_append]
  gi_wp2
  refine ⟨trivial, ?_⟩
  refine (round_in _ _ _).mono ?_
  rintro e w' ⟨rfl, rfl⟩
  gi_wp2
  have hb : (((w.alloc (.cells #[.pointer (some ⟨g, 0, none⟩)] 24)).alloc (.cells #[.int .i64 0] 3)).alloc (.cells #[.pointer (some ⟨g, 0, none⟩)] 24)).cell? ⟨w.heap.size, 0, none⟩ = some (.pointer (some ⟨g, 0, none⟩)) := by simp [go_sem]
  have hr : (((w.alloc (.cells #[.pointer (some ⟨g, 0, none⟩)] 24)).alloc (.cells #[.int .i64 0] 3)).alloc (.cells #[.pointer (some ⟨g, 0, none⟩)] 24)).cell? ⟨w.heap.size + 1, 0, none⟩ = some (.int .i64 0) := by simp [go_sem]
  have hf : (((w.alloc (.cells #[.pointer (some ⟨g, 0, none⟩)] 24)).alloc (.cells #[.int .i64 0] 3)).alloc (.cells #[.pointer (some ⟨g, 0, none⟩)] 24)).frozen? ⟨w.heap.size + 1, 0, none⟩ = false := by simp [go_sem]
  have hq : (((w.alloc (.cells #[.pointer (some ⟨g, 0, none⟩)] 24)).alloc (.cells #[.int .i64 0] 3)).alloc (.cells #[.pointer (some ⟨g, 0, none⟩)] 24)).cell? ⟨w.heap.size + 1 + 1, 0, none⟩ = some (.pointer (some ⟨g, 0, none⟩)) := by simp [go_sem]
  have hB0 : Below w.heap.size w (((w.alloc (.cells #[.pointer (some ⟨g, 0, none⟩)] 24)).alloc (.cells #[.int .i64 0] 3)).alloc (.cells #[.pointer (some ⟨g, 0, none⟩)] 24)) := (((Below.refl _ w).alloc (Nat.le_refl _) _).alloc (by simp) _).alloc (by simp; omega) _
  refine wpIn_rangeFunc_ownF rfl (by omega) (gf := 34) (lb := #[.pointer (some ⟨w.heap.size + 1 + 1, 0, none⟩)]) rfl trivial (enters_of Try.func34 (by kernel_rfl) rfl)
    (round_stops 2 (by omega) base g q L k (w.heap.size + 1 + 1) (w.heap.size + 1 + 1 + 1) _ (H.out.below hB0) (by omega) (by omega) (by simp) hq) belowK_t (belowK_b (by simp)) (Below.refl _ _) (fun _ => rfl)
    (fun pre W => ((∀ t ∈ pre, (q.ss t.val).length = 0) ∧ W.cell? ⟨w.heap.size, 0, none⟩ = some (.pointer (some ⟨g, 0, none⟩)) ∧ W.cell? ⟨w.heap.size + 1, 0, none⟩ = some (.int .i64 0) ∧ W.frozen? ⟨w.heap.size + 1, 0, none⟩ = false) ∧ Below w.heap.size w W)
    (fun c pre W => (c = .ret ∧ ∃ pre' s, pre = pre' ++ [s] ∧ (∀ t ∈ pre', (q.ss t.val).length = 0) ∧ 0 < (q.ss s.val).length ∧ W.cell? ⟨w.heap.size + 1, 0, none⟩ = some (.int .i64 ((s.val : Nat) : Int))) ∧ Below w.heap.size w W)
    (OwnFrom.and (Own.from (fun s A B row hs hg hr => ⟨hs.1, cell_kept hs.2.1 hg hr, cell_kept hs.2.2.1 hg hr, (frozen_kept hs.2.2.1 hg hr).trans hs.2.2.2⟩) _) (ownFrom_below (Nat.le_refl _) (by simp; omega)))
    (fun c => OwnFrom.and (Own.from (fun s A B row hs hg hr => by obtain ⟨h1, pre', t, h2, h3, h4, h5⟩ := hs; exact ⟨h1, pre', t, h2, h3, h4, cell_kept h5 hg hr⟩) _) (ownFrom_below (Nat.le_refl _) (by simp; omega)))
    ⟨⟨by simp, hb, hr, hf⟩, hB0⟩
    (fun x => { tmps := #[.pointer (some ⟨g, 0, none⟩), .pointer (some ⟨w.heap.size, 0, none⟩), .pointer (some ⟨w.heap.size + 1, 0, none⟩), .int .i64 ((x.val : Nat) : Int), .pointer (some ⟨g, 0, none⟩), .pointer (some ⟨g, 0, none⟩), .pointer (some ⟨g, 6, none⟩), .int .i64 q.opn, .bool (decide (0 ≤ q.opn)), undef, undef, undef, undef, .pointer (some ⟨g, 0, none⟩), .func (.func 34) #[] #[.pointer (some ⟨w.heap.size + 1 + 1, 0, none⟩)], .int .i64 ((x.val : Nat) : Int), undef, undef, undef, undef, undef, undef, undef, undef, undef, undef], defers := [] }) ?assign ?body ?done ?stop
  case assign =>
    intro l x W K hK
    gi_wp2
    exact hK
  case body =>
    rintro l pre x W ⟨⟨hp, hcb, hcr, hfr⟩, hB⟩ _
    have hx := x.isLt
    have hQ := H.out.below hB
    have c0 := hQ.cells.c0
    have r0 := (hQ.row x.val hx).1
    obtain ⟨a, c, e1, e2, _⟩ := hQ.first x.val hx
    rw [e1] at r0
    have hx0 : (0 : Int) ≤ ((x.val : Nat) : Int) := by omega
    have hx1 : ((x.val : Nat) : Int) < (q.n : Int) := by omega
    clear e1 hQ
    by_cases hlen : 0 < (q.ss x.val).length
    · gi_wp2
      exact ⟨KeepsOthers.setCell _ _ _, ⟨rfl, pre, x, rfl, hp, hlen, World.cell?_setCell_same' _ _ _ (by rw [hcr]; rfl)⟩, hB.setCell (p := ⟨w.heap.size + 1, 0, none⟩) (by simp) _⟩
    · gi_wp2
      exact ⟨KeepsOthers.refl _, Below.refl _ _, ⟨fun y hy => (List.mem_append.1 hy).elim (hp y) (fun e => by simp at e; subst e; omega), hcb, hcr, hfr⟩, hB⟩
  case done =>
    rintro D ys W hD rfl ⟨⟨hne, _, hcr, hfr⟩, hB⟩ hK
    gi_wp2
    have hK' := (KeepsOthers.setCell W ⟨w.heap.size + 1, 0, none⟩ (.int .i64 (-1))).same D _ hK rfl
    refine ⟨by simp, .inl ⟨_, _, rfl, run_takeDeferred hK', ?_⟩⟩
    have hc5 := cell_kept (World.cell?_setCell_same' W ⟨w.heap.size + 1, 0, none⟩ (.int .i64 (-1)) (by rw [hcr]; rfl)) (grownBy_putObj' _ D (.deferred none)) (fun r e => by cases e; exact ⟨_, hK', rfl⟩)
    refine ⟨.int .i64 (-1), ?_, by rw [next_none q k ho hne], (hB.setCell (p := ⟨w.heap.size + 1, 0, none⟩) (by simp) _).trans (belowK_b (w := w) (Nat.le_refl _) _ D _ _ (by simp at hD; omega) hK' rfl rfl)⟩
    simp [results, Try.f23, go_sem, hc5]
  case stop =>
    rintro D c pre W hD hpre ⟨⟨rfl, pre', s, rfl, h0, h1, hcr⟩, hB⟩ hK
    gi_wp2
    refine ⟨by simp, .inl ⟨_, _, rfl, run_takeDeferred hK, ?_⟩⟩
    have hc5 := cell_kept hcr (grownBy_putObj' _ D (.deferred none)) (fun r e => by cases e; exact ⟨_, hK, rfl⟩)
    refine ⟨.int .i64 ((s.val : Nat) : Int), ?_, by rw [next_found q k ho pre' s hpre h0 h1], hB.trans (belowK_b (w := w) (Nat.le_refl _) W D _ _ (by simp at hD; omega) hK rfl rfl)⟩
    simp [results, Try.f23, go_sem, hc5]
theorem next (base g : Nat) (q : QS) (L : Lay) (k : Ok q) (w : World) (h : QM w base g q L) :
    Calls Try.prog 23 #[.pointer (some ⟨g, 0, none⟩)] w fun e w' => e = .returned (.int .i64 (nextF q)) ∧ Below w.heap.size w w' := by
  by_cases ho : 0 ≤ q.opn
  · have e : nextF q = q.opn := by unfold nextF; rw [if_pos ho]
    rw [e]
    exact next_open base g q L w h ho
  · exact next_loop base g q L k w h (by omega)
