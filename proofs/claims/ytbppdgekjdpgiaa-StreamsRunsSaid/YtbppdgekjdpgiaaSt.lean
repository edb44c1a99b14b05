/- Layer 16: a step of both queues. -/
import Derived.Test.YtbppdgekjdpgiaaRt
namespace Go.Proofs.Ytbppdgekjdpgiaa.C
open Go.RowKit
set_option linter.unusedVariables false
set_option linter.unusedSimpArgs false
attribute [local go_sem high] max2_mx min2_mn max_two min_two
attribute [local go_sem ↓] Go.wp_at_zero Go.wp_at_succ

/-- blocks that are foreign change, new ones come -/
theorem OQ.any {w w' : World} {base g : Nat} {q : QS} {F : Nat → Prop} (h : OQ w base g q F) (hs : w.heap.size ≤ w'.heap.size) (hk : ∀ b, b < w.heap.size → ¬ F b → w'.heap[b]? = w.heap[b]?) : OQ w' base g q (fun b => (b < w.heap.size ∧ F b) ∨ w.heap.size ≤ b) := by
  obtain ⟨hbs, L, h1, h2⟩ := h
  have hr : ∀ b, b < w.heap.size → (if b < w.heap.size then L.role b else (9, 0, 0)) = L.role b := fun b hb => if_pos hb
  refine ⟨Nat.le_trans hbs hs, { L with role := fun b => if b < w.heap.size then L.role b else (9, 0, 0) }, (h1.reRole _ hr).frame hs (fun k hlt hne => hk k hlt fun hF => hne ((hr k hlt).trans (h2 k hF))), fun b hbF => ?_⟩
  show (if b < w.heap.size then L.role b else (9, 0, 0)) = _
  rcases hbF with ⟨h3, h4⟩ | h3
  · rw [if_pos h3]; exact h2 b h4
  · rw [if_neg (by omega)]
/-- both side by side; the blocks in X are neither's -/
structure BT (w : World) (base g gr : Nat) (q : QS) (r : RS) (vL : Value) (bN : Nat) (X : Nat → Prop) : Prop where
  oq : OQ w base g q (fun b => RF gr bN vL r b ∨ X b)
  rm : RM w base gr r vL bN
  x : ∀ b, X b → b < w.heap.size ∧ ¬ RF gr bN vL r b
section
variable {w w' : World} {base g gr : Nat} {q q' : QS} {r r' : RS} {vL vL' : Value} {bN : Nat} {X : Nat → Prop}
theorem BT.lt (h : BT w base g gr q r vL bN X) (b : Nat) (hb : RF gr bN vL r b ∨ X b) : b < w.heap.size := by
  rcases hb with hb | hb
  · exact (h.rm.lt b hb).2
  · exact (h.x b hb).1
theorem BT.bel (h : BT w base g gr q r vL bN X) (hb : Below w.heap.size w w') : BT w' base g gr q r vL bN X :=
  ⟨(h.oq.below hb).mono fun b hf => .inl ⟨h.lt b hf, hf⟩, h.rm.bel hb, fun b hx => ⟨Nat.lt_of_lt_of_le (h.x b hx).1 hb.size, (h.x b hx).2⟩⟩
/-- a block made anew is neither's -/
theorem BT.box (h : BT w base g gr q r vL bN (fun _ => False)) (hb : Below w.heap.size w w') (b5 : Nat) (h1 : w.heap.size ≤ b5) (h2 : b5 < w'.heap.size) : BT w' base g gr q r vL bN (fun b => b = b5) :=
  ⟨(h.oq.below hb).mono fun b hf => (by
    rcases hf with hf | hf
    · exact .inl ⟨(h.rm.lt b hf).2, .inl hf⟩
    · exact .inr (by omega)), h.rm.bel hb, fun b hx => (by subst hx; exact ⟨h2, fun hf => by have := (h.rm.lt _ hf).2; omega⟩)⟩
theorem BT.unbox (h : BT w base g gr q r vL bN X) : BT w base g gr q r vL bN (fun _ => False) := ⟨h.oq.mono fun b hf => hf.elim .inl fun h => h.elim, h.rm, fun b hx => hx.elim⟩
theorem BT.stp (h : BT w base g gr q r vL bN X) (hs : Stp w w' base g q' (fun b => RF gr bN vL r b ∨ X b)) : BT w' base g gr q' r vL bN X ∧ ∀ b, X b → w'.heap[b]? = w.heap[b]? :=
  ⟨⟨hs.same fun b hf => h.lt b hf, h.rm.keep hs.below.size fun b hf => hs.keep b (h.rm.lt b hf).2 (.inl hf), fun b hx => ⟨Nat.lt_of_lt_of_le (h.x b hx).1 hs.below.size, (h.x b hx).2⟩⟩, fun b hx => hs.keep b (h.x b hx).1 (.inr hx)⟩
theorem BT.ref (h : BT w base g gr q r vL bN X) (hm : RM w' base gr r' vL' bN) (hc : Rch w w' base gr bN vL) (hv : ∀ b, vL'.ownBlock = some b → b < w.heap.size → vL.ownBlock = some b) (hd : ∀ b, DB r' b → b < w.heap.size → DB r b) : BT w' base g gr q r' vL' bN X ∧ ∀ b, X b → w'.heap[b]? = w.heap[b]? := by
  have hback : ∀ b, b < w.heap.size → RF gr bN vL' r' b → RF gr bN vL r b := fun b hlt hf => by
    rcases hf with hf | hf | hf | hf
    · exact .inl hf
    · exact .inr (.inl hf)
    · exact .inr (.inr (.inl (hv b hf hlt)))
    · exact .inr (.inr (.inr (hd b hf hlt)))
  have hkeep : ∀ b, b < w.heap.size → ¬ RF gr bN vL r b → w'.heap[b]? = w.heap[b]? := fun b hlt hF => hc.k b hlt (fun e => hF (.inl e)) (fun e => hF (.inr (.inl e))) (fun e => hF (.inr (.inr (.inl e))))
  refine ⟨⟨(h.oq.any hc.b.size fun b hlt hF => hkeep b hlt fun e => hF (.inl e)).mono fun b hf => ?_, hm, fun b hx => ⟨Nat.lt_of_lt_of_le (h.x b hx).1 hc.b.size, fun hf => (h.x b hx).2 (hback b (h.x b hx).1 hf)⟩⟩, fun b hx => hkeep b (h.x b hx).1 (h.x b hx).2⟩
  rcases Nat.lt_or_ge b w.heap.size with hlt | hge
  · left
    refine ⟨hlt, ?_⟩
    rcases hf with hf | hf
    · exact .inl (hback b hlt hf)
    · exact .inr hf
  · exact .inr hge
end
theorem DB_push {r : RS} {e : Ent} {n : Nat} (hA : ∀ ad, e.A = some ad → n ≤ ad.block) (b : Nat) (h : DB (rpush r e) b) (hb : b < n) : DB r b := by
  obtain ⟨y, hy, ad, e1, e2⟩ := h
  rcases List.mem_append.1 hy with hy | hy
  · exact ⟨y, hy, ad, e1, e2⟩
  · simp at hy
    subst hy
    have := hA ad e1
    omega
theorem DB_take {r : RS} {pre post : List Ent} {e : Ent} {x : Nat} (hL : r.L = pre ++ e :: post) (b : Nat) (h : DB (rtake r pre e post x) b) : DB r b := by
  unfold rtake at h
  by_cases hx : rest e ≤ x
  · rw [if_pos hx] at h
    obtain ⟨y, hy, ad, e1, e2⟩ := h
    refine ⟨y, ?_, ad, e1, e2⟩
    rw [hL]
    rcases List.mem_append.1 hy with hy | hy
    · exact List.mem_append.2 (.inl hy)
    · exact List.mem_append.2 (.inr (List.mem_cons_of_mem _ hy))
  · rw [if_neg hx] at h
    exact DB_set (e' := { entB r e with at_ := e.at_ + x }) hL (entB_f r e).2.2.2.2.2.1 rfl b h
section
variable {w w' : World} {base g gr bN s : Nat} {q : QS} {r : RS} {vL : Value} {proto x : Int} {un : Bool} {xs : List Int} {X : Nat → Prop} {q' : QS}
/-- both are pushed -/
theorem push_q (h : BT w base g gr q r vL bN X) (k : RR q r) (s n c : Nat) (proto : Int) (un : Bool) (A : Option Addr) (xs : List Int) (hr : Rd .u8 w A n xs) (hs : s ≤ 65535) :
    Calls Try.prog 11 #[.pointer (some ⟨g, 0, none⟩), .int .u16 s, .int .u32 proto, .bool un, .slice A n c] w fun e w' => e = .returned (.int .i64 (pushE q s n)) ∧ BT w' base g gr (pushR q s proto un xs) r vL bN X ∧ Below base w w' ∧ ∀ b, X b → w'.heap[b]? = w.heap[b]? := by
  refine (push_any h.oq k.i s n c proto un A xs hr hs).mono ?_
  rintro e w' ⟨he, hst⟩
  exact ⟨he, (h.stp hst).1, hst.below, (h.stp hst).2⟩
theorem push_r (h : BT w base g gr (pushR q s proto un xs) r vL bN X) (k : RR q r) (hbase : base ≤ w.heap.size) (n c : Nat) (A : Option Addr) (hr : Rd .u8 w A n xs) (hn : A = none → c = 0) (hs : s ≤ 65535) :
    Calls Try.prog 24 #[.pointer (some ⟨gr, 0, none⟩), .int .u16 s, .int .u32 proto, .bool un, .slice A n c] w fun e w' => e = .returned (.int .i64 (pushE q s n)) ∧ Below base w w' ∧ ∃ r' vL', RR (pushR q s proto un xs) r' ∧ BT w' base g gr (pushR q s proto un xs) r' vL' bN X ∧ ∀ b, X b → w'.heap[b]? = w.heap[b]? := by
  have hl : xs.length = n := hr.1
  by_cases hE : pushE q s n = 0
  · rw [hE]
    refine (rpush_ok h.rm k s n c proto un A xs hr hn hs hE).mono ?_
    rintro e w' ⟨he, ⟨h0, _⟩ | ⟨_, A1, c1, vL', hm, hc, hA, hv⟩⟩
    · exact absurd rfl h0
    · refine ⟨he, hc.b, _, vL', ?_, h.ref hm hc hv fun b hb hlt => DB_push hA b hb hlt⟩
      have e1 : pushR q s proto un xs = pushQ q s proto un xs := by unfold pushR; rw [hl, hE, if_pos rfl]
      rw [e1]
      exact k.push s proto un xs A1 c1 (by rw [hl]; exact hE)
  · refine (rpush_ref h.rm k s n c proto un A xs hr hn hs hE).mono ?_
    rintro e w' ⟨he, ⟨_, hm, hb⟩ | ⟨h0, _⟩⟩
    · refine ⟨he, hb.mono hbase, r, vL, ?_, h.bel hb, fun b hx => hb.block b (h.x b hx).1⟩
      have e1 : pushR q s proto un xs = q := by unfold pushR; rw [hl, if_neg hE]
      rw [e1]
      exact k
    · exact absurd h0 hE
theorem free_q (h : BT w base g gr q r vL bN X) (k : RR q r) (x : Int) :
    Calls Try.prog 16 #[.pointer (some ⟨g, 0, none⟩), .int .i64 x] w fun e w' => e = .returned (.int .i64 (freeE q x)) ∧ BT w' base g gr (freeR q x) r vL bN X ∧ Below base w w' ∧ ∀ b, X b → w'.heap[b]? = w.heap[b]? := by
  refine (free_any h.oq k.i x).mono ?_
  rintro e w' ⟨he, hst⟩
  exact ⟨he, (h.stp hst).1, hst.below, (h.stp hst).2⟩
theorem free_r (h : BT w base g gr (freeR q x) r vL bN X) (k : RR q r) (hbase : base ≤ w.heap.size) :
    Calls Try.prog 27 #[.pointer (some ⟨gr, 0, none⟩), .int .i64 x] w fun e w' => e = .returned (.int .i64 (freeE q x)) ∧ Below base w w' ∧ RR (freeR q x) (rfree q r x) ∧ BT w' base g gr (freeR q x) (rfree q r x) vL bN X ∧ ∀ b, X b → w'.heap[b]? = w.heap[b]? := by
  refine (rfree_c h.rm k x).mono ?_
  rintro e w' ⟨he, hm, hg⟩
  have hc : Rch w w' base gr bN vL := ⟨(Below.refl base w).grown hg hbase (fun b e => by injection e with e; subst e; exact h.rm.lo), fun b hlt h1 _ _ => hg.block b hlt (fun e => by injection e with e; exact h1 e)⟩
  refine ⟨he, hc.b, k.free x, h.ref hm hc (fun b hb _ => hb) fun b hb _ => ?_⟩
  unfold rfree at hb
  split at hb
  · exact hb
  · exact hb
theorem not_pos (n : Nat) : (!decide (0 < n)) = decide (n = 0) := by
  by_cases h : n = 0
  · subst h; rfl
  · rw [decide_eq_false h, decide_eq_true (by omega)]; rfl
/-- a piece of the queue -/
theorem take_q (h : BT w base g gr q r vL bN X) (k : RR q r) (pre post : List Ent) (e : Ent) (ms : List Msg) (hn : nextF q = ((e.st : Nat) : Int)) (hs : e.st < q.n) (he : q.ss e.st = toM e :: ms) (x : Nat) (hx : 1 ≤ x) :
    Calls Try.prog 12 #[.pointer (some ⟨g, 0, none⟩), .int .i64 x] w fun e' w' => ∃ gd cd, e' = .returned (.tuple #[.agg #[.int .u16 e.st, .int .u16 (entB r e).ssn, .int .u32 e.proto, .bool e.un, .slice (some ⟨gd, 0, none⟩) ((e.data.drop e.at_).take x).length cd, .bool (decide (e.at_ = 0)), .bool (decide (rest e ≤ x))], .bool true]) ∧
      BT w' base g gr (takeQ q e.st (toM e) ms x) r vL bN X ∧ Below base w w' ∧ (∀ b, X b → w'.heap[b]? = w.heap[b]?) ∧ Rd .u8 w' (some ⟨gd, 0, none⟩) ((e.data.drop e.at_).take x).length ((e.data.drop e.at_).take x) ∧ w.heap.size ≤ gd ∧ gd < w'.heap.size := by
  obtain ⟨k1, k2, k3⟩ := k.i.head e.st hs (toM e) ms he
  refine (take_s h.oq k.i.ok e.st (toM e) ms x hn hs he hx k1 k2 k3).mono ?_
  rintro e' w' ⟨gd, cd, rfl, hst, hown, _⟩
  obtain ⟨arr, d1, d2, d3, d4⟩ := own_arr hown
  refine ⟨gd, cd, ?_, (h.stp hst).1, hst.below, (h.stp hst).2, own_rd hown, d3, d4⟩
  have hl : (toM e).data.length = rest e := by simp [toM, rest]
  rw [k.ssn hs, hl]
  show Ending.returned (.tuple #[.agg #[_, _, _, _, _, .bool (!decide (0 < e.at_)), _], _]) = _
  rw [not_pos]
  rfl
theorem take_r (h : BT w base g gr q' r vL bN X) (k : RR q r) (pre post : List Ent) (e : Ent) (ms : List Msg) (hL : r.L = pre ++ e :: post) (hpre : ∀ y ∈ pre, y.st ≠ e.st) (he : q.ss e.st = toM e :: ms) (hnx : rnext r = ((pre.length : Nat) : Int)) (hget : r.L[pre.length]? = some e) (hc : (q.opn = e.st ∧ (toM e).begun = true) ∨ (q.opn < 0 ∧ (toM e).begun = false)) (x : Nat) (hx : 1 ≤ x) :
    Calls Try.prog 25 #[.pointer (some ⟨gr, 0, none⟩), .int .i64 x] w fun e' w' => ∃ A c vL', e' = .returned (.tuple #[.agg #[.int .u16 e.st, .int .u16 (entB r e).ssn, .int .u32 e.proto, .bool e.un, .slice A ((e.data.drop e.at_).take x).length c, .bool (decide (e.at_ = 0)), .bool (decide (rest e ≤ x))], .bool true]) ∧
      BT w' base g gr q' (rtake r pre e post x) vL' bN X ∧ RR (takeQ q e.st (toM e) ms x) (rtake r pre e post x) ∧ Below base w w' ∧ (∀ b, b < w.heap.size → ¬ RF gr bN vL r b → w'.heap[b]? = w.heap[b]?) ∧ Rd .u8 w' A ((e.data.drop e.at_).take x).length ((e.data.drop e.at_).take x) := by
  refine (rtake_ok h.rm k pre post e ms hL hnx hget x hx).mono ?_
  rintro e' w' ⟨A, c, vL', rfl, hm, hcx, hrd, hv⟩
  exact ⟨A, c, vL', rfl, (h.ref hm hcx hv fun b hb _ => DB_take hL b hb).1, k.take hL hpre he hc x hx, hcx.b, (fun b hlt hF => hcx.k b hlt (fun e => hF (.inl e)) (fun e => hF (.inr (.inl e))) (fun e => hF (.inr (.inr (.inl e))))), hrd⟩
end
