/- Layer 16: the small functions of a queue. -/
import Derived.Test.YtbppdgekjdpgiaaD
import Derived.Deep.OwnRows
namespace Go.Proofs.Ytbppdgekjdpgiaa.C
open Go.RowKit
set_option linter.unusedVariables false
set_option linter.unusedSimpArgs false
attribute [local go_sem high] max2_mx min2_mn max_two min_two
attribute [local go_sem ↓] Go.wp_at_zero Go.wp_at_succ

structure QC (w : World) (g : Nat) (q : QS) (L : Lay) : Prop where
  c0 : w.cell? ⟨g, 0, none⟩ = some (.slice (some ⟨L.bl, 0, none⟩) q.n q.n)
  c1 : w.cell? ⟨g, 1, none⟩ = some (.slice (some ⟨L.bn, 0, none⟩) q.n q.n)
  c2 : w.cell? ⟨g, 2, none⟩ = some (.int .i64 q.lim)
  c3 : w.cell? ⟨g, 3, none⟩ = some (.int .i64 q.wai)
  c4 : w.cell? ⟨g, 4, none⟩ = some (.int .i64 q.tak)
  c5 : w.cell? ⟨g, 5, none⟩ = some (.int .i64 q.last)
  c6 : w.cell? ⟨g, 6, none⟩ = some (.int .i64 q.opn)
  fr : ∀ j, w.frozen? ⟨g, j, none⟩ = false
  lt : g < w.heap.size
theorem QM.cells {w : World} {base g : Nat} {q : QS} {L : Lay} (h : QM w base g q L) : QC w g q L :=
  ⟨cell_of_row w g 0 _ 59 (0, 0) h.qb, cell_of_row w g 1 _ 59 (0, 0) h.qb, cell_of_row w g 2 _ 59 (0, 0) h.qb, cell_of_row w g 3 _ 59 (0, 0) h.qb, cell_of_row w g 4 _ 59 (0, 0) h.qb, cell_of_row w g 5 _ 59 (0, 0) h.qb, cell_of_row w g 6 _ 59 (0, 0) h.qb, fun j => frozen_of_row w g j _ 59 h.qb, lt_of_heap h.qb⟩
theorem QM.row {w : World} {base g : Nat} {q : QS} {L : Lay} (h : QM w base g q L) (s : Nat) (hs : s < q.n) : w.cell? ⟨L.bl, s, none⟩ = some (L.sv s) ∧ w.frozen? ⟨L.bl, s, none⟩ = false := by
  obtain ⟨lv, h1, h2, h3⟩ := h.lb
  exact ⟨by rw [cell_of_row w L.bl s lv 67 (0, 0) h1]; exact h3 s hs, frozen_of_row w L.bl s lv 67 h1⟩
theorem QM.num {w : World} {base g : Nat} {q : QS} {L : Lay} (h : QM w base g q L) (s : Nat) (hs : s < q.n) : w.cell? ⟨L.bn, s, none⟩ = some (.int .u16 (q.nums s)) ∧ w.frozen? ⟨L.bn, s, none⟩ = false := by
  obtain ⟨nv, h1, h2, h3⟩ := h.nb
  exact ⟨by rw [cell_of_row w L.bn s nv 30 (0, 0) h1]; exact h3 s hs, frozen_of_row w L.bn s nv 30 h1⟩
theorem ptrs_len (q : QS) (L : Lay) (s : Nat) : (ptrs q L s).length = (q.ss s).length := by simp [ptrs]
/-- stream s's slice, its first message -/
theorem QM.first {w : World} {base g : Nat} {q : QS} {L : Lay} (h : QM w base g q L) (s : Nat) (hs : s < q.n) : ∃ a c, L.sv s = .slice a (q.ss s).length c ∧ (q.ss s).length ≤ c ∧ (0 < (q.ss s).length → ∃ b off, a = some ⟨b, off, none⟩ ∧ w.cell? ⟨b, off, none⟩ = some (.pointer (some ⟨L.mb s (L.hd s), 0, none⟩))) := by
  obtain ⟨a, c, h1, h2, h3, h4⟩ := (h.sv s hs).form
  rw [ptrs_len] at h1 h2 h4
  refine ⟨a, c, h1, h2, fun h0 => ?_⟩
  obtain ⟨b, off, e, hc⟩ := h4 h0
  exact ⟨b, off, e, hc 0 _ (by simp [ptrs, h0])⟩
set_option maxHeartbeats 400000 in
theorem is_ (base g : Nat) (q : QS) (L : Lay) (w : World) (h : QM w base g q L) : Calls Try.prog 21 #[.pointer (some ⟨g, 0, none⟩)] w fun e w' => e = .returned (.bool true) ∧ w = w' := by
  have c0 := h.cells.c0
  have hne := fun (W : World) => run_neq_slice_nil_any (P := Try.prog) W 56 67 (some ⟨L.bl, 0, none⟩) q.n q.n 0 0 Try.underlying56
  clear h
  go_enter Try.func21, Try.ntmps21
  go_wp2
  go_ret
  exact ⟨rfl, rfl⟩
set_option maxHeartbeats 400000 in
theorem waiting (base g : Nat) (q : QS) (L : Lay) (w : World) (h : QM w base g q L) : Calls Try.prog 13 #[.pointer (some ⟨g, 0, none⟩)] w fun e w' => e = .returned (.int .i64 q.wai) ∧ w = w' := by
  have H := Lib.hid h
  have c3 := h.cells.c3
  clear h
  go_enter Try.func13, Try.ntmps13
  go_wp2_with fail
  refine (is_ base g q L _ H.out).mono ?_
  rintro e w' ⟨rfl, rfl⟩
  go_wp2
  go_ret
  exact ⟨rfl, rfl⟩
set_option maxHeartbeats 400000 in
theorem taken (base g : Nat) (q : QS) (L : Lay) (w : World) (h : QM w base g q L) : Calls Try.prog 17 #[.pointer (some ⟨g, 0, none⟩)] w fun e w' => e = .returned (.int .i64 q.tak) ∧ w = w' := by
  have H := Lib.hid h
  have c4 := h.cells.c4
  clear h
  go_enter Try.func17, Try.ntmps17
  go_wp2_with fail
  refine (is_ base g q L _ H.out).mono ?_
  rintro e w' ⟨rfl, rfl⟩
  go_wp2
  go_ret
  exact ⟨rfl, rfl⟩
set_option maxHeartbeats 400000 in
theorem held (base g : Nat) (q : QS) (L : Lay) (w : World) (h : QM w base g q L) (w0 : 0 ≤ q.wai) (w1 : q.wai ≤ 1073741824) (t0 : 0 ≤ q.tak) (t1 : q.tak ≤ 1073741824) : Calls Try.prog 14 #[.pointer (some ⟨g, 0, none⟩)] w fun e w' => e = .returned (.int .i64 (q.wai + q.tak)) ∧ w = w' := by
  have H := Lib.hid h
  clear h
  go_enter Try.func14, Try.ntmps14
  go_wp2_with fail
  refine (waiting base g q L _ H.out).mono ?_
  rintro e w' ⟨rfl, rfl⟩
  go_wp2_with fail
  refine (taken base g q L _ H.out).mono ?_
  rintro e w' ⟨rfl, rfl⟩
  go_wp2
  go_ret
  exact ⟨rfl, rfl⟩
/-- what a call tells, and what it leaves of the queue -/
def Chg (w : World) (base g : Nat) (q' : QS) (L : Lay) (v : Value) (e : Ending) (w' : World) : Prop := e = .returned v ∧ QM w' base g q' L ∧ w.grownBy w' (some g)
set_option maxHeartbeats 1000000 in
theorem free_t (base g : Nat) (q : QS) (L : Lay) (x : Int) (w : World) (h : QM w base g q L) (x0 : 0 ≤ x) (x1 : x ≤ q.tak) (t1 : q.tak ≤ 1073741824) : Calls Try.prog 16 #[.pointer (some ⟨g, 0, none⟩), .int .i64 x] w (Chg w base g { q with tak := q.tak - x } L (.int .i64 0)) := by
  have H := Lib.hid h
  have c4 := h.cells.c4
  have f4 := h.cells.fr 4
  clear h
  go_enter Try.func16, Try.ntmps16
  go_wp2_with fail
  refine (is_ base g q L _ H.out).mono ?_
  rintro e w' ⟨rfl, rfl⟩
  go_wp2
  go_ret
  exact ⟨rfl, H.out.setQ { q with tak := q.tak - x } rfl rfl rfl (heap_setCell_same w g 4 _ 59 _ H.out.qb) (oth_set _ _ _ _), ⟨rfl, rfl, rfl, by simp, fun k _ hk => heap_setCell_other w ⟨g, 4, none⟩ k _ (fun e => hk (by simp [e]))⟩⟩
set_option maxHeartbeats 1000000 in
theorem free_n (base g : Nat) (q : QS) (L : Lay) (x : Int) (w : World) (h : QM w base g q L) (x0 : x < 0) : Calls Try.prog 16 #[.pointer (some ⟨g, 0, none⟩), .int .i64 x] w fun e w' => e = .returned (.int .i64 5) ∧ w = w' := by
  have H := Lib.hid h
  have c4 := h.cells.c4
  clear h
  go_enter Try.func16, Try.ntmps16
  go_wp2_with fail
  refine (is_ base g q L _ H.out).mono ?_
  rintro e w' ⟨rfl, rfl⟩
  go_wp2
  go_ret
  exact ⟨rfl, rfl⟩
set_option maxHeartbeats 1000000 in
theorem free_g (base g : Nat) (q : QS) (L : Lay) (x : Int) (w : World) (h : QM w base g q L) (x0 : 0 ≤ x) (x1 : q.tak < x) : Calls Try.prog 16 #[.pointer (some ⟨g, 0, none⟩), .int .i64 x] w fun e w' => e = .returned (.int .i64 5) ∧ w = w' := by
  have H := Lib.hid h
  have c4 := h.cells.c4
  clear h
  go_enter Try.func16, Try.ntmps16
  go_wp2_with fail
  refine (is_ base g q L _ H.out).mono ?_
  rintro e w' ⟨rfl, rfl⟩
  go_wp2
  go_ret
  exact ⟨rfl, rfl⟩
set_option maxHeartbeats 1000000 in
theorem count_t (base g : Nat) (q : QS) (L : Lay) (s : Nat) (w : World) (h : QM w base g q L) (hs : s < q.n) (hn : q.n ≤ 1024) : Calls Try.prog 20 #[.pointer (some ⟨g, 0, none⟩), .int .u16 s] w fun e w' => e = .returned (.int .i64 (q.ss s).length) ∧ w = w' := by
  have H := Lib.hid h
  have c0 := h.cells.c0
  have r0 := (h.row s hs).1
  obtain ⟨a, c, e1, _, _⟩ := h.first s hs
  rw [e1] at r0
  clear h e1
  go_enter Try.func20, Try.ntmps20
  go_wp2_with fail
  refine (is_ base g q L _ H.out).mono ?_
  rintro e w' ⟨rfl, rfl⟩
  go_wp2
  go_ret
  exact ⟨rfl, rfl⟩
set_option maxHeartbeats 1000000 in
theorem count_f (base g : Nat) (q : QS) (L : Lay) (s : Nat) (w : World) (h : QM w base g q L) (hs : q.n ≤ s) (hs2 : s ≤ 65535) : Calls Try.prog 20 #[.pointer (some ⟨g, 0, none⟩), .int .u16 s] w fun e w' => e = .returned (.int .i64 0) ∧ w = w' := by
  have H := Lib.hid h
  have c0 := h.cells.c0
  clear h
  go_enter Try.func20, Try.ntmps20
  go_wp2_with fail
  refine (is_ base g q L _ H.out).mono ?_
  rintro e w' ⟨rfl, rfl⟩
  go_wp2
  go_ret
  exact ⟨rfl, rfl⟩
