/- Layer 16: New; Push where it refuses. -/
import Derived.Test.YtbppdgekjdpgiaaH
namespace Go.Proofs.Ytbppdgekjdpgiaa.C
open Go.RowKit
set_option linter.unusedVariables false
set_option linter.unusedSimpArgs false
attribute [local go_sem high] max2_mx min2_mn max_two min_two
attribute [local go_sem ↓] Go.wp_at_zero Go.wp_at_succ

theorem info67 : (Try.prog.info? 67).map (fun i => (i.zero, i.size, i.bytes)) = some (some (.slice none 0 0), 1, 24) := by kernel_rfl
theorem info30 : (Try.prog.info? 30).map (fun i => (i.zero, i.size, i.bytes)) = some (some (.int .u16 0), 1, 2) := by kernel_rfl
/-- an empty queue -/
def newQ (n : Nat) (lim : Int) : QS := ⟨n, lim, 0, 0, -1, -1, fun _ => [], fun _ => 0⟩
theorem made_get (z : Value) (n s : Nat) (hs : s < n) : (madeCells #[z] n)[s]? = some z := by
  simp [madeCells, hs, Nat.mod_one]
theorem made_size (z : Value) (n : Nat) : (madeCells #[z] n).size = n := by simp [madeCells]
theorem new_qm (w : World) (base g bl bn n : Nat) (lim : Int) (hq : w.heap[g]? = some (.cells #[.slice (some ⟨bl, 0, none⟩) n n, .slice (some ⟨bn, 0, none⟩) n n, .int .i64 lim, .int .i64 0, .int .i64 0, .int .i64 (-1), .int .i64 (-1)] 59 (0, 0)))
    (hl : w.heap[bl]? = some (.cells (madeCells #[.slice none 0 0] n) 67 (0, 0))) (hn : w.heap[bn]? = some (.cells (madeCells #[.int .u16 0] n) 30 (0, 0))) (h1 : g ≠ bl) (h2 : g ≠ bn) (h3 : bl ≠ bn) (b1 : base ≤ g) (b2 : base ≤ bl) (b3 : base ≤ bn) : ∃ L, QM w base g (newQ n lim) L := by
  refine ⟨⟨bl, bn, fun _ => .slice none 0 0, fun _ => 0, fun _ _ => 0, fun b => if b = g then (0, 0, 0) else if b = bl then (1, 0, 0) else if b = bn then (2, 0, 0) else (9, 0, 0)⟩, ?_⟩
  exact { qb := hq, lb := ⟨_, hl, made_size _ _, fun s hs => made_get _ _ _ hs⟩, nb := ⟨_, hn, made_size _ _, fun s hs => made_get _ _ _ hs⟩, sv := fun s hs => .inl ⟨rfl, rfl⟩, svr := (fun s hs b hb => by cases hb), ms := fun s hs k m hm => by simp [newQ] at hm, mr := fun s hs k hk => by simp [newQ] at hk, rg := by simp, rl := by simp [Ne.symm h1], rn := by simp [Ne.symm h2, Ne.symm h3], hg := b1, hl := b2, hn := b3 }
theorem al_new (w : World) (A : Obj) (j : Nat) (h : j = w.heap.size) : (w.alloc A).heap[j]? = some A := by subst h; exact heap_alloc_new w A
theorem al_old (w : World) (A : Obj) (j : Nat) (h : j < w.heap.size) : (w.alloc A).heap[j]? = w.heap[j]? :=
  ((Below.refl w.heap.size w).alloc (Nat.le_refl _) A).block j h
def NewP (n : Nat) (lim : Int) (w : World) (e : Ending) (w' : World) : Prop := ∃ g L, e = .returned (.tuple #[.pointer (some ⟨g, 0, none⟩), .int .i64 0]) ∧ QM w' w.heap.size g (newQ n lim) L ∧ Below w.heap.size w w'
set_option maxHeartbeats 2000000 in
theorem new_t (n : Nat) (lim : Int) (w : World) (n0 : 1 ≤ n) (n1 : n ≤ 1024) (l0 : 1 ≤ lim) (l1 : lim ≤ 1073741824) :
    Calls Try.prog 9 #[.int .i64 n, .int .i64 lim] w (NewP n lim w) := by
  have hu59 := Try.underlying59
  have hmk56 := run_make_row' (P := Try.prog) 56 67 (.slice none 0 0) 24 Try.underlying56 info67 rfl .i64 .i64 n (by omega) (by omega)
  have hmk57 := run_make_row' (P := Try.prog) 57 30 (.int .u16 0) 2 Try.underlying57 info30 rfl .i64 .i64 n (by omega) (by omega)
  go_enter Try.func9, Try.ntmps9
  go_wp2
  go_region
  all_goals
    go_wp2
    go_ret2
  · obtain ⟨L, hL⟩ := new_qm (((w.drew.alloc (.cells (madeCells #[.slice none 0 0] n) 67)).alloc (.cells (madeCells #[.int .u16 0] n) 30)).alloc (.cells #[.slice (some ⟨w.heap.size, 0, none⟩) n n, .slice (some ⟨w.heap.size + 1, 0, none⟩) n n, .int .i64 lim, .int .i64 0, .int .i64 0, .int .i64 (-1), .int .i64 (-1)] 59)) w.heap.size (w.heap.size + 1 + 1) w.heap.size (w.heap.size + 1) n lim (al_new _ _ _ (by first | omega | (simp; done) | (simp; omega))) ((al_old _ _ _ (by first | omega | (simp; done) | (simp; omega))).trans ((al_old _ _ _ (by first | omega | (simp; done) | (simp; omega))).trans (al_new _ _ _ (by first | omega | (simp; done) | (simp; omega))))) ((al_old _ _ _ (by first | omega | (simp; done) | (simp; omega))).trans (al_new _ _ _ (by first | omega | (simp; done) | (simp; omega)))) (by omega) (by omega) (by omega) (by omega) (by omega) (by omega)
    exact ⟨_, L, rfl, hL, (by repeat (first | with_reducible exact Below.refl _ _ | with_reducible assumption | with_reducible refine Below.drew ?_ | with_reducible refine below_dN ?_ _ | with_reducible refine Below.setCell ?_ (by first | omega | (simp; done) | (simp; omega)) _ | with_reducible refine below_al ?_ (by first | omega | (simp; done) | (simp; omega)) _ | exact Below.refl _ _ | assumption | refine Below.drew ?_ | refine below_dN ?_ _ | refine Below.setCell ?_ (by first | omega | (simp; done) | (simp; omega)) _ | refine below_al ?_ (by first | omega | (simp; done) | (simp; omega)) _ | refine below_tr (by assumption) ?_ (by first | omega | (simp; done) | (simp; omega)) | fail))⟩
  · obtain ⟨L, hL⟩ := new_qm (((w.drew.alloc (.cells (madeCells #[.int .u16 0] n) 30)).alloc (.cells (madeCells #[.slice none 0 0] n) 67)).alloc (.cells #[.slice (some ⟨w.heap.size + 1, 0, none⟩) n n, .slice (some ⟨w.heap.size, 0, none⟩) n n, .int .i64 lim, .int .i64 0, .int .i64 0, .int .i64 (-1), .int .i64 (-1)] 59)) w.heap.size (w.heap.size + 1 + 1) (w.heap.size + 1) w.heap.size n lim (al_new _ _ _ (by first | omega | (simp; done) | (simp; omega))) ((al_old _ _ _ (by first | omega | (simp; done) | (simp; omega))).trans (al_new _ _ _ (by first | omega | (simp; done) | (simp; omega)))) ((al_old _ _ _ (by first | omega | (simp; done) | (simp; omega))).trans ((al_old _ _ _ (by first | omega | (simp; done) | (simp; omega))).trans (al_new _ _ _ (by first | omega | (simp; done) | (simp; omega))))) (by omega) (by omega) (by omega) (by omega) (by omega) (by omega)
    exact ⟨_, L, rfl, hL, (by repeat (first | with_reducible exact Below.refl _ _ | with_reducible assumption | with_reducible refine Below.drew ?_ | with_reducible refine below_dN ?_ _ | with_reducible refine Below.setCell ?_ (by first | omega | (simp; done) | (simp; omega)) _ | with_reducible refine below_al ?_ (by first | omega | (simp; done) | (simp; omega)) _ | exact Below.refl _ _ | assumption | refine Below.drew ?_ | refine below_dN ?_ _ | refine Below.setCell ?_ (by first | omega | (simp; done) | (simp; omega)) _ | refine below_al ?_ (by first | omega | (simp; done) | (simp; omega)) _ | refine below_tr (by assumption) ?_ (by first | omega | (simp; done) | (simp; omega)) | fail))⟩
set_option maxHeartbeats 1000000 in
theorem push_stream (base g : Nat) (q : QS) (L : Lay) (k : Ok q) (s n c : Nat) (proto : Int) (un : Bool) (A : Option Addr) (w : World) (h : QM w base g q L) (hs : q.n ≤ s) (hs2 : s ≤ 65535) :
    Calls Try.prog 11 #[.pointer (some ⟨g, 0, none⟩), .int .u16 s, .int .u32 proto, .bool un, .slice A n c] w fun e w' => e = .returned (.int .i64 160) ∧ w = w' := by
  have H := Lib.hid h
  have c0 := h.cells.c0
  clear h k
  go_enter Try.func11, Try.ntmps11
  go_wp2_with fail
  refine (is_ base g q L _ H.out).mono ?_
  rintro e w' ⟨rfl, rfl⟩
  go_wp2
  go_ret
  exact ⟨rfl, rfl⟩
set_option maxHeartbeats 1000000 in
theorem push_empty (base g : Nat) (q : QS) (L : Lay) (k : Ok q) (s c : Nat) (proto : Int) (un : Bool) (A : Option Addr) (w : World) (h : QM w base g q L) (hs : s < q.n) :
    Calls Try.prog 11 #[.pointer (some ⟨g, 0, none⟩), .int .u16 s, .int .u32 proto, .bool un, .slice A 0 c] w fun e w' => e = .returned (.int .i64 2) ∧ w = w' := by
  have H := Lib.hid h
  have c0 := h.cells.c0
  have hn1 := k.n1
  clear h k
  go_enter Try.func11, Try.ntmps11
  go_wp2_with fail
  refine (is_ base g q L _ H.out).mono ?_
  rintro e w' ⟨rfl, rfl⟩
  go_wp2
  go_ret
  exact ⟨rfl, rfl⟩
set_option maxHeartbeats 1000000 in
theorem push_long (base g : Nat) (q : QS) (L : Lay) (k : Ok q) (s n c : Nat) (proto : Int) (un : Bool) (A : Option Addr) (w : World) (h : QM w base g q L) (hs : s < q.n) (h1 : 65536 < n) (h2 : n ≤ 9223372036854775807) :
    Calls Try.prog 11 #[.pointer (some ⟨g, 0, none⟩), .int .u16 s, .int .u32 proto, .bool un, .slice A n c] w fun e w' => e = .returned (.int .i64 2) ∧ w = w' := by
  have H := Lib.hid h
  have c0 := h.cells.c0
  have hn1 := k.n1
  have hz : ((n : Int) == 0) = false := by simp; omega
  clear h k
  go_enter Try.func11, Try.ntmps11
  go_wp2_with fail
  refine (is_ base g q L _ H.out).mono ?_
  rintro e w' ⟨rfl, rfl⟩
  go_wp2
  go_ret
  exact ⟨rfl, rfl⟩
set_option maxHeartbeats 1000000 in
theorem push_room (base g : Nat) (q : QS) (L : Lay) (k : Ok q) (s n c : Nat) (proto : Int) (un : Bool) (A : Option Addr) (w : World) (h : QM w base g q L) (hs : s < q.n) (h0 : 0 < n) (h1 : n ≤ 65536) (hroom : q.lim - q.wai - q.tak < n) :
    Calls Try.prog 11 #[.pointer (some ⟨g, 0, none⟩), .int .u16 s, .int .u32 proto, .bool un, .slice A n c] w fun e w' => e = .returned (.int .i64 161) ∧ Below w.heap.size w w' := by
  have H := Lib.hid h
  have c0 := h.cells.c0
  have c2 := h.cells.c2
  have c3 := h.cells.c3
  have c4 := h.cells.c4
  have hn1 := k.n1
  have m0 := k.m0
  have m1 := k.m1
  have w0 := k.w0
  have t0 := k.t0
  have wt := k.wt
  have hw1 : IntKind.i64.wrap (q.lim - q.wai) = q.lim - q.wai := by rw [IntKind.wrap_i64]; omega
  have hw2 : IntKind.i64.wrap (q.lim - q.wai - q.tak) = q.lim - q.wai - q.tak := by rw [IntKind.wrap_i64]; omega
  have hz : ((n : Int) == 0) = false := by simp; omega
  clear h k
  go_enter Try.func11, Try.ntmps11
  go_wp2_with fail
  refine (is_ base g q L _ H.out).mono ?_
  rintro e w' ⟨rfl, rfl⟩
  go_wp2_with fail
  go_quiet (fail)
  go_wp2
  go_ret
  exact ⟨rfl, (by repeat (first | with_reducible exact Below.refl _ _ | with_reducible assumption | with_reducible refine Below.drew ?_ | with_reducible refine below_dN ?_ _ | with_reducible refine Below.setCell ?_ (by first | omega | (simp; done) | (simp; omega)) _ | with_reducible refine below_al ?_ (by first | omega | (simp; done) | (simp; omega)) _ | exact Below.refl _ _ | assumption | refine Below.drew ?_ | refine below_dN ?_ _ | refine Below.setCell ?_ (by first | omega | (simp; done) | (simp; omega)) _ | refine below_al ?_ (by first | omega | (simp; done) | (simp; omega)) _ | refine below_tr (by assumption) ?_ (by first | omega | (simp; done) | (simp; omega)) | fail))⟩
