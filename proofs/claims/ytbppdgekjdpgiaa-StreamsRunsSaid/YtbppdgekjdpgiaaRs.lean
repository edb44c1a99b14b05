/- Layer 16: what the reference's Take stores: an entry's cell, a number, two pieces beside. -/
import Derived.Test.YtbppdgekjdpgiaaRp
namespace Go.Proofs.Ytbppdgekjdpgiaa.C
open Go.RowKit
set_option linter.unusedVariables false
set_option linter.unusedSimpArgs false

section
variable {w w' : World} {base gr : Nat} {r r' : RS} {vL : Value} {bN : Nat}
theorem ec_set (pre : List Ent) (e e' : Ent) (post : List Ent) (j : Nat) (v : Value) (hj : j < 6) (h : (ec e).set j v = ec e') : ((pre ++ e :: post).flatMap ec).set (pre.length * 6 + j) v = (pre ++ e' :: post).flatMap ec := by
  rw [List.flatMap_append, List.flatMap_append, List.flatMap_cons, List.flatMap_cons]
  have hl : (pre.flatMap ec).length = pre.length * 6 := flat_len ec_len pre
  rw [List.set_append_right _ _ (by rw [hl]; omega), hl, Nat.add_sub_cancel_left, List.set_append_left _ _ (by rw [ec_len]; exact hj), h]
/-- a cell of an entry -/
theorem RM.setE (h : RM w base gr r vL bN) {pre post : List Ent} {e e' : Ent} (hL : r.L = pre ++ e :: post) (gL n c : Nat) (hv : vL = .slice (some ⟨gL, 0, none⟩) n c) (j : Nat) (v : Value) (hj : j < 6) (he : (ec e).set j v = ec e') (hA : e'.A = e.A) (hd : e'.data = e.data) (hc : e'.c = e.c) :
    RM (w.setCell ⟨gL, pre.length * 6 + j, none⟩ v) base gr { r with L := pre ++ e' :: post } vL bN := by
  have hne : ∀ b, b ≠ gL → (w.setCell ⟨gL, pre.length * 6 + j, none⟩ v).heap[b]? = w.heap[b]? := fun b hb => heap_setCell_other w ⟨gL, pre.length * 6 + j, none⟩ b v (fun e => hb e)
  have ho : vL.ownBlock = some gL := by rw [hv]; rfl
  have hnL : n = r.L.length := by
    obtain ⟨A, c', e1, _⟩ := own_form h.l
    rw [hv] at e1
    injection e1
  have hlen : (pre ++ e' :: post).length = r.L.length := by rw [hL]; simp
  have hDB : ∀ b, DB { r with L := pre ++ e' :: post } b → DB r b := fun b hb => by
    obtain ⟨y, hy, ad, e1, e2⟩ := hb
    rcases List.mem_append.1 hy with hy | hy
    · exact ⟨y, by rw [hL]; exact List.mem_append.2 (.inl hy), ad, e1, e2⟩
    · rcases List.mem_cons.1 hy with rfl | hy
      · exact ⟨e, by rw [hL]; simp, ad, by rw [← hA]; exact e1, e2⟩
      · exact ⟨y, by rw [hL]; exact List.mem_append.2 (.inr (List.mem_cons_of_mem _ hy)), ad, e1, e2⟩
  refine { g := (hne gr (fun e => h.n1 (by rw [ho, e]))).trans h.g, l := ?_, s := ?_, d := fun y hy => ?_, dd := fun b hb => ?_, ne := h.ne, n1 := h.n1, n2 := h.n2, lo := h.lo, lo2 := h.lo2, hb := by simpa using h.hb }
  · have h1 := h.l
    rw [hv] at h1 ⊢
    rw [← hnL] at h1
    rw [hlen, ← hnL]
    have h2 := h1.stored (pre.length * 6 + j) v
    rw [hL, ec_set pre e e' post j v hj he] at h2
    exact h2.1
  · obtain ⟨arr, h1, h2⟩ := h.s
    exact ⟨arr, (hne bN (fun e => h.n2 (by rw [ho, e]))).trans h1, h2⟩
  · have hy' : ∃ y' ∈ r.L, y.A = y'.A ∧ y.data = y'.data ∧ y.c = y'.c := by
      rcases List.mem_append.1 hy with hy | hy
      · exact ⟨y, by rw [hL]; exact List.mem_append.2 (.inl hy), rfl, rfl, rfl⟩
      · rcases List.mem_cons.1 hy with rfl | hy
        · exact ⟨e, by rw [hL]; simp, hA, hd, hc⟩
        · exact ⟨y, by rw [hL]; exact List.mem_append.2 (.inr (List.mem_cons_of_mem _ hy)), rfl, rfl, rfl⟩
    obtain ⟨y', hm, a1, a2, a3⟩ := hy'
    obtain ⟨d1, d2, d3, d4⟩ := h.d y' hm
    rw [a1, a2, a3]
    exact ⟨Rd.oth d1 (oth_set w gL _ v) (fun ad e1 => fun e2 => (h.dd ad.block ⟨y', hm, ad, e1, rfl⟩).2.2.2.2 (by rw [ho, e2])), d2, d3, d4⟩
  · obtain ⟨l1, l2, l3⟩ := h.dd b (hDB b hb)
    exact ⟨l1, by simpa using l2, l3⟩
/-- a stream's number -/
theorem RM.setS (h : RM w base gr r vL bN) (s : Nat) (x : Int) : RM (w.setCell ⟨bN, s, none⟩ (.int .u16 x)) base gr { r with ssn := upd r.ssn s x } vL bN := by
  have hne : ∀ b, b ≠ bN → (w.setCell ⟨bN, s, none⟩ (.int .u16 x)).heap[b]? = w.heap[b]? := fun b hb => heap_setCell_other w ⟨bN, s, none⟩ b _ (fun e => hb e)
  refine { g := (hne gr h.ne).trans h.g, l := own_below h.l fun b hb => hne b (fun e => h.n2 (by rw [← e]; exact hb)), s := ?_, d := fun y hy => ?_, dd := fun b hb => ?_, ne := h.ne, n1 := h.n1, n2 := h.n2, lo := h.lo, lo2 := h.lo2, hb := by simpa using h.hb }
  · obtain ⟨arr, h1, h2, h3⟩ := h.s
    refine ⟨_, heap_setCell_same w bN s arr 30 _ h1, by simpa using h2, fun t ht => ?_⟩
    by_cases e : t = s
    · subst e
      show _ = some (Value.int .u16 (upd r.ssn t x t))
      rw [upd_same, Array.getElem?_setIfInBounds_self]
      simp [h2]
      exact ht
    · show _ = some (Value.int .u16 (upd r.ssn s x t))
      rw [upd_ne _ _ _ _ e, Array.getElem?_setIfInBounds_ne (by omega)]
      exact h3 t ht
  · obtain ⟨d1, d2, d3, d4⟩ := h.d y hy
    exact ⟨Rd.oth d1 (oth_set w bN s _) (fun ad e1 => (h.dd ad.block ⟨y, hy, ad, e1, rfl⟩).2.2.2.1), d2, d3, d4⟩
  · obtain ⟨l1, l2, l3⟩ := h.dd b hb
    exact ⟨l1, by simpa using l2, l3⟩
/-- a list made anew takes its place -/
theorem RM.newL (h : RM w base gr r vL bN) {v' : Value} {L' : List Ent} (hb : Below w.heap.size w w') (ho : w'.ownsRow w.heap.size 77 6 v' L'.length (L'.flatMap ec)) (hsub : ∀ y ∈ L', y ∈ r.L) :
    RM (w'.setCell ⟨gr, 2, none⟩ v') base gr { r with L := L' } v' bN := by
  have hlt := h.lt
  have hgr := (hlt gr (.inl rfl)).2
  have hbn := (hlt bN (.inr (.inl rfl))).2
  have hge := own_lt ho
  have set : ∀ b, b ≠ gr → (w'.setCell ⟨gr, 2, none⟩ v').heap[b]? = w'.heap[b]? := fun b hne => heap_setCell_other w' ⟨gr, 2, none⟩ b v' (fun e => hne e)
  have hDB : ∀ b, DB { r with L := L' } b → DB r b := fun b hb => by
    obtain ⟨y, hy, ad, e1, e2⟩ := hb
    exact ⟨y, hsub y hy, ad, e1, e2⟩
  refine { g := ?_, l := own_base (own_below ho fun b hb => set b (fun e => by have := (hge b hb).1; omega)) h.hb, s := ?_, d := fun y hy => ?_, dd := fun b hb' => ?_, ne := h.ne, n1 := fun e => by have := (hge _ e).1; omega, n2 := fun e => by have := (hge _ e).1; omega, lo := h.lo, lo2 := h.lo2, hb := Nat.le_trans h.hb (by have := hb.size; simpa using this) }
  · rw [heap_setCell_same w' gr 2 _ 70 v' ((hb.block gr hgr).trans h.g)]
    rfl
  · obtain ⟨arr, h1, h2⟩ := h.s
    exact ⟨arr, (set bN h.ne.symm).trans ((hb.block bN hbn).trans h1), h2⟩
  · obtain ⟨d1, d2, d3, d4⟩ := h.d y (hsub y hy)
    exact ⟨Rd.oth (Rd.below d1 hb) (oth_set w' gr 2 v') (fun ad e1 => (h.dd ad.block ⟨y, hsub y hy, ad, e1, rfl⟩).2.2.1), d2, d3, d4⟩
  · obtain ⟨l1, l2, l3, l4, l5⟩ := h.dd b (hDB b hb')
    exact ⟨l1, by have := hb.size; simp; omega, l3, l4, fun e => by have := (hge _ e).1; omega⟩
end
/-- in the midst of Take: two pieces beside the reference -/
structure RT (w w' : World) (base gr : Nat) (r : RS) (vL : Value) (bN R P : Nat) (rr pp : Array Value) : Prop where
  rm : RM w' base gr r vL bN
  ch : Rch w w' base gr bN vL
  rc : w'.heap[R]? = some (.cells rr 36 (0, 0))
  p : w'.heap[P]? = some (.cells pp 36 (0, 0))
  nR : w.heap.size ≤ R
  nP : w.heap.size ≤ P
  RP : R ≠ P
  old : ∀ b, RF gr bN vL r b → b < w.heap.size
  hb : base ≤ w.heap.size
section
variable {w w' w2 : World} {base gr : Nat} {r r' : RS} {vL : Value} {bN R P : Nat} {rr pp : Array Value}
theorem Rch.new {w w' : World} {base gr bN b j : Nat} {vL v : Value} (h : Rch w w' base gr bN vL) (hbase : base ≤ w.heap.size) (hb : w.heap.size ≤ b) : Rch w (w'.setCell ⟨b, j, none⟩ v) base gr bN vL :=
  ⟨h.b.setCell (Nat.le_trans hbase hb) _, fun k hk h1 h2 h3 => (heap_setCell_other w' ⟨b, j, none⟩ k v (fun e => by have : k = b := e; omega)).trans (h.k k hk h1 h2 h3)⟩
theorem Rch.own {w w' : World} {base gr bN b j : Nat} {vL v : Value} (h : Rch w w' base gr bN vL) (hbase : base ≤ b) (hb : b = gr ∨ b = bN ∨ vL.ownBlock = some b) : Rch w (w'.setCell ⟨b, j, none⟩ v) base gr bN vL :=
  ⟨h.b.setCell hbase _, fun k hk h1 h2 h3 => (heap_setCell_other w' ⟨b, j, none⟩ k v (fun e => by
    have e : k = b := e
    subst e
    rcases hb with rfl | rfl | hb
    · exact h1 rfl
    · exact h2 rfl
    · exact h3 hb)).trans (h.k k hk h1 h2 h3)⟩
theorem Rch.bel2 {w w' w2 : World} {base gr bN : Nat} {vL : Value} (h : Rch w w' base gr bN vL) (hbase : base ≤ w.heap.size) (hb : Below w'.heap.size w' w2) : Rch w w2 base gr bN vL :=
  ⟨h.b.trans (hb.mono (Nat.le_trans hbase h.b.size)), fun k hk h1 h2 h3 => (hb.block k (Nat.lt_of_lt_of_le hk h.b.size)).trans (h.k k hk h1 h2 h3)⟩
theorem RT.setP (h : RT w w' base gr r vL bN R P rr pp) (j : Nat) (v : Value) : RT w (w'.setCell ⟨P, j, none⟩ v) base gr r vL bN R P rr (pp.setIfInBounds j v) :=
  { rm := h.rm.keep (by simp) fun b hb => heap_setCell_other w' ⟨P, j, none⟩ b v (fun e => by have e : b = P := e; have := h.old b hb; have := h.nP; omega), ch := h.ch.new h.hb h.nP, rc := (heap_setCell_other w' ⟨P, j, none⟩ R v (fun e => h.RP e)).trans h.rc, p := heap_setCell_same w' P j pp 36 v h.p, nR := h.nR, nP := h.nP, RP := h.RP, old := h.old, hb := h.hb }
theorem RT.setR (h : RT w w' base gr r vL bN R P rr pp) (j : Nat) (v : Value) : RT w (w'.setCell ⟨R, j, none⟩ v) base gr r vL bN R P (rr.setIfInBounds j v) pp :=
  { rm := h.rm.keep (by simp) fun b hb => heap_setCell_other w' ⟨R, j, none⟩ b v (fun e => by have e : b = R := e; have := h.old b hb; have := h.nR; omega), ch := h.ch.new h.hb h.nR, p := (heap_setCell_other w' ⟨R, j, none⟩ P v (fun e => h.RP e.symm)).trans h.p, rc := heap_setCell_same w' R j rr 36 v h.rc, nR := h.nR, nP := h.nP, RP := h.RP, old := h.old, hb := h.hb }
theorem RT.bel (h : RT w w' base gr r vL bN R P rr pp) (hb : Below w'.heap.size w' w2) : RT w w2 base gr r vL bN R P rr pp :=
  { rm := h.rm.bel hb, ch := h.ch.bel2 h.hb hb, rc := (hb.block R (lt_of_heap h.rc)).trans h.rc, p := (hb.block P (lt_of_heap h.p)).trans h.p, nR := h.nR, nP := h.nP, RP := h.RP, old := h.old, hb := h.hb }
/-- a store into a block of the reference's -/
theorem RT.own (h : RT w w' base gr r vL bN R P rr pp) (b j : Nat) (v : Value) (hb : b = gr ∨ b = bN ∨ vL.ownBlock = some b) (hm : RM (w'.setCell ⟨b, j, none⟩ v) base gr r' vL bN) (hD : ∀ k, DB r' k → DB r k) : RT w (w'.setCell ⟨b, j, none⟩ v) base gr r' vL bN R P rr pp := by
  have hf : RF gr bN vL r b := by
    rcases hb with h1 | h1 | h1
    · exact .inl h1
    · exact .inr (.inl h1)
    · exact .inr (.inr (.inl h1))
  have hlt := h.old b hf
  have hR := h.nR
  have hP := h.nP
  exact { rm := hm, ch := h.ch.own (h.rm.lt b hf).1 hb, rc := (heap_setCell_other w' ⟨b, j, none⟩ R v (fun e => by have e : R = b := e; omega)).trans h.rc, p := (heap_setCell_other w' ⟨b, j, none⟩ P v (fun e => by have e : P = b := e; omega)).trans h.p, nR := h.nR, nP := h.nP, RP := h.RP, old := (fun k hk => by
    rcases hk with hk | hk | hk | hk
    · exact h.old k (.inl hk)
    · exact h.old k (.inr (.inl hk))
    · exact h.old k (.inr (.inr (.inl hk)))
    · exact h.old k (.inr (.inr (.inr (hD k hk))))), hb := h.hb }
theorem RT.eq (h : RT w w' base gr r vL bN R P rr pp) (e : r = r') : RT w w' base gr r' vL bN R P rr pp := e ▸ h
end
