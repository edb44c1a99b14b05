/- Layer 16: a queue of one's own beside foreign blocks: what each call leaves. -/
import Derived.Test.YtbppdgekjdpgiaaW
import Derived.Laws.BytesArg
namespace Go.Proofs.Ytbppdgekjdpgiaa.C
open Go.RowKit
set_option linter.unusedVariables false
set_option linter.unusedSimpArgs false

/-- a queue of one's own at g; the blocks in F are foreign to it -/
def OQ (w : World) (base g : Nat) (q : QS) (F : Nat → Prop) : Prop := base ≤ w.heap.size ∧ ∃ L, QM w base g q L ∧ ∀ b, F b → L.role b = (9, 0, 0)
section
variable {w w' : World} {base g : Nat} {q q' : QS} {F F' : Nat → Prop}
theorem OQ.mono (h : OQ w base g q F) (hF : ∀ b, F' b → F b) : OQ w base g q F' := by
  obtain ⟨hb, L, h1, h2⟩ := h
  exact ⟨hb, L, h1, fun b hb => h2 b (hF b hb)⟩
theorem OQ.below (h : OQ w base g q F) (hb : Below w.heap.size w w') : OQ w' base g q (fun b => (b < w.heap.size ∧ F b) ∨ w.heap.size ≤ b) := by
  obtain ⟨hbs, L, h1, h2⟩ := h
  refine ⟨Nat.le_trans hbs hb.size, { L with role := fun b => if b < w.heap.size then L.role b else (9, 0, 0) }, (h1.reRole _ fun b hb => if_pos hb).below hb, fun b hbF => ?_⟩
  show (if b < w.heap.size then L.role b else (9, 0, 0)) = _
  rcases hbF with ⟨h3, h4⟩ | h3
  · rw [if_pos h3]; exact h2 b h4
  · rw [if_neg (by omega)]
theorem OQ.set (h : OQ w base g q F) (b j : Nat) (v : Value) (hF : F b) : OQ (w.setCell ⟨b, j, none⟩ v) base g q F := by
  obtain ⟨hbs, L, h1, h2⟩ := h
  exact ⟨by simpa using hbs, L, h1.frame (by simp) (fun k hk hr => heap_setCell_other w ⟨b, j, none⟩ k v (fun e => hr (by rw [show k = b from e]; exact h2 b hF))), h2⟩
/-- whatever else changes in foreign blocks and beside -/
theorem OQ.far (h : OQ w base g q F) (hs : w.heap.size ≤ w'.heap.size) (hk : ∀ b, b < w.heap.size → ¬ F b → w'.heap[b]? = w.heap[b]?) : OQ w' base g q F := by
  obtain ⟨hbs, L, h1, h2⟩ := h
  exact ⟨Nat.le_trans hbs hs, L, h1.frame hs (fun k hlt hr => hk k hlt (fun hF => hr (h2 k hF))), h2⟩
/-- behind a call: the queue; nothing below base, nothing foreign has changed; what is new is foreign or the queue's -/
structure Stp (w w' : World) (base g : Nat) (q' : QS) (F : Nat → Prop) : Prop where
  oq : OQ w' base g q' (fun b => b < w.heap.size ∧ F b)
  below : Below base w w'
  keep : ∀ b, b < w.heap.size → F b → w'.heap[b]? = w.heap[b]?
theorem Stp.of (h : OQ w base g q F) (hb : Below w.heap.size w w') : Stp w w' base g q F :=
  ⟨(h.below hb).mono fun b hb => .inl hb, hb.mono h.1, fun b hlt _ => hb.block b hlt⟩
theorem Stp.refl (h : OQ w base g q F) : Stp w w base g q F := Stp.of h (Below.refl _ _)
/-- the foreign blocks that were there are foreign still -/
theorem Stp.same (h : Stp w w' base g q' F) (hF : ∀ b, F b → b < w.heap.size) : OQ w' base g q' F := h.oq.mono fun b hb => ⟨hF b hb, hb⟩
theorem stp_kept {L L' : Lay} (hbs : base ≤ w.heap.size) (h2 : ∀ b, F b → L.role b = (9, 0, 0)) (hq : QM w' base g q' L') (hk : Kept w w' base L L') : Stp w w' base g q' F :=
  ⟨⟨Nat.le_trans hbs hk.below.size, L', hq, fun b hb => (hk.role b hb.1).trans (h2 b hb.2)⟩, hk.below, fun b hlt hF => hk.far b hlt (.inl (h2 b hF))⟩
theorem stp_grown {L : Lay} (hbs : base ≤ w.heap.size) (h2 : ∀ b, F b → L.role b = (9, 0, 0)) (hq : QM w' base g q' L) (hg : w.grownBy w' (some g)) : Stp w w' base g q' F :=
  ⟨⟨Nat.le_trans hbs hg.size, L, hq, fun b hb => h2 b hb.2⟩, (Below.refl base w).grown hg hbs (fun k e => by injection e with e; subst e; exact hq.hg), fun b hlt hF => hg.block b hlt (fun e => by
    injection e with e
    have := h2 b hF
    rw [e, hq.rg] at this
    cases this)⟩
end
/-! ### the queue's calls -/
/-- Take's answer, beside a queue of one's own -/
def TakeS (base g : Nat) (q' : QS) (F : Nat → Prop) (s ssn proto : Int) (un : Bool) (xs : List Int) (bg en : Bool) (w : World) (e : Ending) (w' : World) : Prop :=
  ∃ gd cd, e = .returned (.tuple #[.agg #[.int .u16 s, .int .u16 ssn, .int .u32 proto, .bool un, .slice (some ⟨gd, 0, none⟩) xs.length cd, .bool bg, .bool en], .bool true]) ∧ Stp w w' base g q' F ∧ w'.ownsRow w.heap.size 5 1 (.slice (some ⟨gd, 0, none⟩) xs.length cd) xs.length (nums8 xs) ∧ OQ w' base g q' (fun b => b = gd ∨ (b < w.heap.size ∧ F b))
section
variable {w : World} {base g : Nat} {q : QS} {F : Nat → Prop}
theorem take_s (h : OQ w base g q F) (k : Ok q) (s : Nat) (m : Msg) (ms : List Msg) (x : Nat) (hn : nextF q = s) (hs : s < q.n) (he : q.ss s = m :: ms) (h0 : 1 ≤ x) (h1 : 0 < m.data.length) (h2 : m.data.length ≤ 65536) (hw : (m.data.length : Int) ≤ q.wai) :
    Calls Try.prog 12 #[.pointer (some ⟨g, 0, none⟩), .int .i64 x] w (TakeS base g (takeQ q s m ms x) F s (begM q s m).ssn m.proto m.un (m.data.take x) (!m.begun) (decide (m.data.length ≤ x)) w) := by
  obtain ⟨hb, L, hq, hF⟩ := h
  let role' : Nat → Nat × Nat × Nat := fun b => if b < w.heap.size then L.role b else (9, 0, 0)
  have hrole : ∀ b, b < w.heap.size → role' b = L.role b := fun b hb => if_pos hb
  have hq' := hq.reRole role' hrole
  refine (take_t base g q { L with role := role' } k s m ms x w hq' (fun b hb => if_neg (by omega)) hb hn hs he h0 h1 h2 hw).mono ?_
  rintro e w' ⟨L', gd, cd, he, hqm, hk, hown, hr⟩
  have hF' : ∀ b, (b < w.heap.size ∧ F b) → role' b = (9, 0, 0) := fun b hb => (hrole b hb.1).trans (hF b hb.2)
  have hst := stp_kept (F := fun b => b < w.heap.size ∧ F b) hb hF' hqm hk
  refine ⟨gd, cd, he, ⟨hst.oq.mono fun b hb => ⟨hb.1, hb⟩, hst.below, fun b hlt hf => hst.keep b hlt ⟨hlt, hf⟩⟩, hown, hst.oq.1, L', hqm, fun b hb => ?_⟩
  rcases hb with rfl | hb
  · exact hr
  · exact (hk.role b hb.1).trans (hF' b hb)
/-- Push's answer -/
def PushS (base g : Nat) (q' : QS) (F : Nat → Prop) (n : Int) (w : World) (e : Ending) (w' : World) : Prop := e = .returned (.int .i64 n) ∧ Stp w w' base g q' F
/-- what Push tells -/
def pushE (q : QS) (s n : Nat) : Int := if q.n ≤ s then 160 else if n = 0 ∨ 65536 < n then 2 else if q.lim - q.wai - q.tak < n then 161 else 0
theorem push_s (h : OQ w base g q F) (k : Ok q) (s n c : Nat) (proto : Int) (un : Bool) (A : Option Addr) (xs : List Int) (hr : Rd .u8 w A n xs) (hs2 : s ≤ 65535) (hlen : (q.ss s).length ≤ 1073741824) :
    Calls Try.prog 11 #[.pointer (some ⟨g, 0, none⟩), .int .u16 s, .int .u32 proto, .bool un, .slice A n c] w (PushS base g (if pushE q s n = 0 then pushQ q s proto un xs else q) F (pushE q s n) w) := by
  obtain ⟨hb, L, hq, hF⟩ := id h
  unfold pushE
  by_cases h1 : q.n ≤ s
  · rw [if_pos h1, if_neg (by decide)]
    refine (push_stream base g q L k s n c proto un A w hq h1 hs2).mono ?_
    rintro e w' ⟨rfl, rfl⟩
    exact ⟨rfl, Stp.refl h⟩
  rw [if_neg h1]
  by_cases h2 : n = 0 ∨ 65536 < n
  · rw [if_pos h2, if_neg (by decide)]
    rcases h2 with h2 | h2
    · subst h2
      refine (push_empty base g q L k s c proto un A w hq (by omega)).mono ?_
      rintro e w' ⟨rfl, rfl⟩
      exact ⟨rfl, Stp.refl h⟩
    · refine (push_long base g q L k s n c proto un A w hq (by omega) h2 hr.2.1).mono ?_
      rintro e w' ⟨rfl, rfl⟩
      exact ⟨rfl, Stp.refl h⟩
  rw [if_neg h2]
  by_cases h3 : q.lim - q.wai - q.tak < n
  · rw [if_pos h3, if_neg (by decide)]
    refine (push_room base g q L k s n c proto un A w hq (by omega) (by omega) (by omega) h3).mono ?_
    rintro e w' ⟨rfl, hb'⟩
    exact ⟨rfl, Stp.of h hb'⟩
  · rw [if_neg h3, if_pos rfl]
    refine (push_ok base g q L k s n c proto un A xs w hq hb hr (by omega) (by omega) (by omega) (by omega) hlen).mono ?_
    rintro e w' ⟨rfl, L', h4, h5⟩
    exact ⟨rfl, stp_kept hb hF h4 h5⟩
/-- what Free tells -/
def freeE (q : QS) (x : Int) : Int := if x < 0 ∨ q.tak < x then 5 else 0
theorem free_s (h : OQ w base g q F) (k : Ok q) (x : Int) :
    Calls Try.prog 16 #[.pointer (some ⟨g, 0, none⟩), .int .i64 x] w (PushS base g (if freeE q x = 0 then { q with tak := q.tak - x } else q) F (freeE q x) w) := by
  obtain ⟨hb, L, hq, hF⟩ := id h
  have t1 : q.tak ≤ 1073741824 := by have := k.m1; have := k.wt; have := k.w0; omega
  by_cases h1 : x < 0
  · rw [show freeE q x = 5 from if_pos (.inl h1), if_neg (by decide)]
    refine (free_n base g q L x w hq h1).mono ?_
    rintro e w' ⟨rfl, rfl⟩
    exact ⟨rfl, Stp.refl h⟩
  by_cases h2 : q.tak < x
  · rw [show freeE q x = 5 from if_pos (.inr h2), if_neg (by decide)]
    refine (free_g base g q L x w hq (by omega) h2).mono ?_
    rintro e w' ⟨rfl, rfl⟩
    exact ⟨rfl, Stp.refl h⟩
  · rw [show freeE q x = 0 from if_neg (by omega), if_pos rfl]
    refine (free_t base g q L x w hq (by omega) (by omega) t1).mono ?_
    rintro e w' ⟨rfl, h4, h5⟩
    exact ⟨rfl, stp_grown hb hF h4 h5⟩
/-- where nothing is taken -/
theorem take_no (h : OQ w base g q F) (k : Ok q) (x : Int) (hn : x < 1 ∨ nextF q < 0) :
    Calls Try.prog 12 #[.pointer (some ⟨g, 0, none⟩), .int .i64 x] w fun e w' => e = .returned (.tuple #[noPart, .bool false]) ∧ Below w.heap.size w w' := by
  obtain ⟨hb, L, hq, hF⟩ := id h
  by_cases hx : x < 1
  · exact take_n base g q L x w hq hx
  · exact take_f base g q L k x w hq (by omega) (by omega)
theorem nxt_s (h : OQ w base g q F) (k : Ok q) (s : Nat) (m : Msg) (ms : List Msg) (hn : nextF q = s) (hs : s < q.n) (he : q.ss s = m :: ms) :
    Calls Try.prog 15 #[.pointer (some ⟨g, 0, none⟩)] w fun e w' => e = .returned (.tuple #[.int .u16 s, .int .i64 m.data.length, .bool true]) ∧ Below w.heap.size w w' := by
  obtain ⟨hb, L, hq, hF⟩ := h
  exact nxt_t base g q L k s m ms w hq hn hs he
theorem nxt_no (h : OQ w base g q F) (k : Ok q) (hn : nextF q < 0) :
    Calls Try.prog 15 #[.pointer (some ⟨g, 0, none⟩)] w fun e w' => e = .returned (.tuple #[.int .u16 0, .int .i64 0, .bool false]) ∧ Below w.heap.size w w' := by
  obtain ⟨hb, L, hq, hF⟩ := h
  exact nxt_f base g q L k w hq hn
theorem held_s (h : OQ w base g q F) (k : Ok q) : Calls Try.prog 14 #[.pointer (some ⟨g, 0, none⟩)] w fun e w' => e = .returned (.int .i64 (q.wai + q.tak)) ∧ w = w' := by
  obtain ⟨hb, L, hq, hF⟩ := h
  have := k.m1
  have := k.wt
  have := k.w0
  have := k.t0
  exact held base g q L w hq (by omega) (by omega) (by omega) (by omega)
theorem waiting_s (h : OQ w base g q F) : Calls Try.prog 13 #[.pointer (some ⟨g, 0, none⟩)] w fun e w' => e = .returned (.int .i64 q.wai) ∧ w = w' := by
  obtain ⟨hb, L, hq, hF⟩ := h
  exact waiting base g q L w hq
theorem taken_s (h : OQ w base g q F) : Calls Try.prog 17 #[.pointer (some ⟨g, 0, none⟩)] w fun e w' => e = .returned (.int .i64 q.tak) ∧ w = w' := by
  obtain ⟨hb, L, hq, hF⟩ := h
  exact taken base g q L w hq
theorem new_s (n : Nat) (lim : Int) (w : World) (n0 : 1 ≤ n) (n1 : n ≤ 1024) (l0 : 1 ≤ lim) (l1 : lim ≤ 1073741824) :
    Calls Try.prog 9 #[.int .i64 n, .int .i64 lim] w fun e w' => ∃ g, e = .returned (.tuple #[.pointer (some ⟨g, 0, none⟩), .int .i64 0]) ∧ OQ w' w.heap.size g (newQ n lim) (· < w.heap.size) ∧ Below w.heap.size w w' := by
  refine (new_t n lim w n0 n1 l0 l1).mono ?_
  rintro e w' ⟨g, L, h1, h2, h3⟩
  refine ⟨g, h1, ⟨h3.size, { L with role := fun b => if b < w.heap.size then (9, 0, 0) else L.role b }, ?_, fun b hb => if_pos hb⟩, h3⟩
  have hr : ∀ b, w.heap.size ≤ b → (if b < w.heap.size then ((9, 0, 0) : Nat × Nat × Nat) else L.role b) = L.role b := fun b hb => if_neg (by omega)
  exact { h2 with svr := fun s hs b hb => by simp [newQ] at hs; exact ⟨(hr b (h2.svr s hs b hb).2).trans (h2.svr s hs b hb).1, (h2.svr s hs b hb).2⟩, ms := fun s hs k m hm => by simp [newQ] at hm, mr := fun s hs k hk => by simp [newQ] at hk, rg := (hr _ h2.hg).trans h2.rg, rl := (hr _ h2.hl).trans h2.rl, rn := (hr _ h2.hn).trans h2.rn }
end
/-! ### bytes as a string -/
theorem conv_rd {P : Program} {w : World} {A : Option Addr} {n c : Nat} {xs : List Int} (h : Rd .u8 w A n xs) (src e : TypeId) (hs : P.underlying src = some (.slice e)) (he : P.underlying e = some (.int .u8)) :
    ∀ dst, P.underlying dst = some .string → (convert src dst (.slice A n c)).run P w = .ok (.string (strOfNums xs)) w := by
  intro dst hd
  rcases Nat.eq_zero_or_pos n with h0 | h0
  · subst h0
    obtain rfl : xs = [] := List.eq_nil_of_length_eq_zero h.1
    cases A with
    | none => exact run_convert_bytes_nil w src e hs he 0 c dst hd
    | some ad =>
      rw [run_convert_bytes_string w src dst e _ 0 c hs he hd, run_bytesToString w _ 0 c [] (run_loadCells_list (P := P) w ad [] (fun j v hj => by simp at hj))]
      rfl
  · obtain ⟨ad, rfl, hc⟩ := h.2.2 h0
    have hl : (loadCells ad n).run P w = .ok (xs.map (Value.int .u8)).toArray w := by
      have := run_loadCells_list (P := P) w ad (xs.map (Value.int .u8)) (fun j v hj => by
        have hjl : j < xs.length := by
          rcases Nat.lt_or_ge j xs.length with h | h
          · exact h
          · simp [List.getElem?_eq_none (show (xs.map (Value.int .u8)).length ≤ j by simpa using h)] at hj
        rw [hc j (by rw [← h.1]; exact hjl)]
        simp [List.getElem?_eq_getElem hjl] at hj
        subst hj
        simp [rdI, List.getD, List.getElem?_eq_getElem hjl])
      simpa [h.1] using this
    rw [run_convert_bytes_string w src dst e _ n c hs he hd, run_bytesToString w _ n c xs hl, foldl_push_bytes]
    simp [strOfNums, ByteArray.empty, ByteArray.emptyWithCapacity]
    rfl
