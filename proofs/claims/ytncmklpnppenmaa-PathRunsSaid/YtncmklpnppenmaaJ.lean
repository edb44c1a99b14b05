/- Contracts of layer 11: the reference's New; same. -/
import Derived.Test.YtncmklpnppenmaaI
namespace Go.Proofs.Ytncmklpnppenmaa.C
open Go.RowKit
set_option linter.unusedVariables false
set_option linter.unusedSimpArgs false
attribute [local go_sem high] max2_mx min2_mn max_two min_two
attribute [local go_sem ↓] Go.wp_at_zero Go.wp_at_succ

set_option maxHeartbeats 4000000 in
theorem rcare (M F Z : Int) (w : World) : Calls Try.prog 28 #[.agg #[.int .i64 M, .int .i64 F, .int .i64 Z]] w fun e w' => e = .returned (.bool (careB M F Z)) ∧ Below w.heap.size w w' := by
  have hu23 := Try.underlying23
  go_enter Try.func28, Try.ntmps28
  go_wp2
  all_goals
    go_ret
    exact ⟨ret_bool (by rw [Bool.eq_iff_iff]; unfold careB; simp; omega), (by repeat (first | with_reducible exact Below.refl _ _ | with_reducible assumption | with_reducible refine Below.drew ?_ | with_reducible refine below_dN ?_ _ | with_reducible refine Below.setCell ?_ (by first | omega | (simp; done) | (simp; omega)) _ | with_reducible refine below_al ?_ (by first | omega | (simp; done) | (simp; omega)) _ | exact Below.refl _ _ | assumption | refine Below.drew ?_ | refine below_dN ?_ _ | refine Below.setCell ?_ (by first | omega | (simp; done) | (simp; omega)) _ | refine below_al ?_ (by first | omega | (simp; done) | (simp; omega)) _ | refine below_tr (by assumption) ?_ (by first | omega | (simp; done) | (simp; omega)) | fail))⟩
/-- a path of the reference is made in a block of its own -/
def MadeR (M F Z x : Int) (w : World) (e : Ending) (w' : World) : Prop := ∃ g, e = .returned (.tuple #[.pointer (some ⟨g, 0, none⟩), .int .i64 0]) ∧ Rt w' g M F Z 0 false 0 0 x ∧ w.heap.size ≤ g ∧ Below w.heap.size w w'
theorem al_new (w : World) (A : Obj) (j : Nat) (h : j = w.heap.size) : (w.alloc A).heap[j]? = some A := by subst h; exact heap_alloc_new w A
theorem al_old (w : World) (A : Obj) (j : Nat) (h : j < w.heap.size) : (w.alloc A).heap[j]? = w.heap[j]? :=
  ((Below.refl w.heap.size w).alloc (Nat.le_refl _) A).block j h
def boxed (M F Z : Int) : Obj := .cells #[.int .i64 M, .int .i64 F, .int .i64 Z] 23
set_option maxHeartbeats 2000000 in
theorem rnew_t (M F Z x : Int) (w : World) (hc : careB M F Z = true) (hx : inB x 0 1099511627776 = true) : Calls Try.prog 15 #[.agg #[.int .i64 M, .int .i64 F, .int .i64 Z], .int .i64 x] w (MadeR M F Z x w) := by
  have hu23 := Try.underlying23
  go_enter Try.func15, Try.ntmps15
  go_wp2_with fail
  refine (rcare M F Z _).mono ?_
  rw [hc]
  rintro e w1 ⟨rfl, hb1⟩
  have hx1 := (hb1.block w.heap.size (by simp)).trans (heap_alloc_new w _)
  have hB1 : Below w.heap.size w w1 := (by repeat (first | with_reducible exact Below.refl _ _ | with_reducible assumption | with_reducible refine Below.drew ?_ | with_reducible refine below_dN ?_ _ | with_reducible refine Below.setCell ?_ (by first | omega | (simp; done) | (simp; omega)) _ | with_reducible refine below_al ?_ (by first | omega | (simp; done) | (simp; omega)) _ | exact Below.refl _ _ | assumption | refine Below.drew ?_ | refine below_dN ?_ _ | refine Below.setCell ?_ (by first | omega | (simp; done) | (simp; omega)) _ | refine below_al ?_ (by first | omega | (simp; done) | (simp; omega)) _ | refine below_tr (by assumption) ?_ (by first | omega | (simp; done) | (simp; omega)) | fail))
  have z1 : w.heap.size < w1.heap.size := by have := hb1.size; simp at this; omega
  have y0 := cell_of_row w1 w.heap.size 0 _ 23 (0, 0) hx1
  have y1 := cell_of_row w1 w.heap.size 1 _ 23 (0, 0) hx1
  have y2 := cell_of_row w1 w.heap.size 2 _ 23 (0, 0) hx1
  clear hb1 hx1
  go_wp2_with fail
  refine (rtime x _).mono ?_
  rw [hx]
  rintro e w' ⟨rfl, rfl⟩
  go_wp2
  go_ret2
  exact ⟨w1.heap.size, rfl, al_new w1 _ _ rfl, hB1.size, (by repeat (first | with_reducible exact Below.refl _ _ | with_reducible assumption | with_reducible refine Below.drew ?_ | with_reducible refine below_dN ?_ _ | with_reducible refine Below.setCell ?_ (by first | omega | (simp; done) | (simp; omega)) _ | with_reducible refine below_al ?_ (by first | omega | (simp; done) | (simp; omega)) _ | exact Below.refl _ _ | assumption | refine Below.drew ?_ | refine below_dN ?_ _ | refine Below.setCell ?_ (by first | omega | (simp; done) | (simp; omega)) _ | refine below_al ?_ (by first | omega | (simp; done) | (simp; omega)) _ | refine below_tr (by assumption) ?_ (by first | omega | (simp; done) | (simp; omega)) | fail))⟩
set_option maxHeartbeats 2000000 in
theorem rnew_x (M F Z x : Int) (w : World) (hc : careB M F Z = true) (hx : inB x 0 1099511627776 = false) : Calls Try.prog 15 #[.agg #[.int .i64 M, .int .i64 F, .int .i64 Z], .int .i64 x] w fun e w' => e = .returned (.tuple #[.pointer none, .int .i64 1]) ∧ Below w.heap.size w w' := by
  have hu23 := Try.underlying23
  go_enter Try.func15, Try.ntmps15
  go_wp2_with fail
  refine (rcare M F Z _).mono ?_
  rw [hc]
  rintro e w1 ⟨rfl, hb1⟩
  have hx1 := (hb1.block w.heap.size (by simp)).trans (heap_alloc_new w _)
  have hB1 : Below w.heap.size w w1 := (by repeat (first | with_reducible exact Below.refl _ _ | with_reducible assumption | with_reducible refine Below.drew ?_ | with_reducible refine below_dN ?_ _ | with_reducible refine Below.setCell ?_ (by first | omega | (simp; done) | (simp; omega)) _ | with_reducible refine below_al ?_ (by first | omega | (simp; done) | (simp; omega)) _ | exact Below.refl _ _ | assumption | refine Below.drew ?_ | refine below_dN ?_ _ | refine Below.setCell ?_ (by first | omega | (simp; done) | (simp; omega)) _ | refine below_al ?_ (by first | omega | (simp; done) | (simp; omega)) _ | refine below_tr (by assumption) ?_ (by first | omega | (simp; done) | (simp; omega)) | fail))
  have z1 : w.heap.size < w1.heap.size := by have := hb1.size; simp at this; omega
  have y0 := cell_of_row w1 w.heap.size 0 _ 23 (0, 0) hx1
  have y1 := cell_of_row w1 w.heap.size 1 _ 23 (0, 0) hx1
  have y2 := cell_of_row w1 w.heap.size 2 _ 23 (0, 0) hx1
  clear hb1 hx1
  go_wp2_with fail
  refine (rtime x _).mono ?_
  rw [hx]
  rintro e w' ⟨rfl, rfl⟩
  go_wp2
  go_ret2
  exact ⟨rfl, hB1⟩
set_option maxHeartbeats 2000000 in
theorem rnew_c (M F Z x : Int) (w : World) (hc : careB M F Z = false) : Calls Try.prog 15 #[.agg #[.int .i64 M, .int .i64 F, .int .i64 Z], .int .i64 x] w fun e w' => e = .returned (.tuple #[.pointer none, .int .i64 110]) ∧ Below w.heap.size w w' := by
  have hu23 := Try.underlying23
  go_enter Try.func15, Try.ntmps15
  go_wp2_with fail
  refine (rcare M F Z _).mono ?_
  rw [hc]
  rintro e w1 ⟨rfl, hb1⟩
  have hx1 := (hb1.block w.heap.size (by simp)).trans (heap_alloc_new w _)
  have hB1 : Below w.heap.size w w1 := (by repeat (first | with_reducible exact Below.refl _ _ | with_reducible assumption | with_reducible refine Below.drew ?_ | with_reducible refine below_dN ?_ _ | with_reducible refine Below.setCell ?_ (by first | omega | (simp; done) | (simp; omega)) _ | with_reducible refine below_al ?_ (by first | omega | (simp; done) | (simp; omega)) _ | exact Below.refl _ _ | assumption | refine Below.drew ?_ | refine below_dN ?_ _ | refine Below.setCell ?_ (by first | omega | (simp; done) | (simp; omega)) _ | refine below_al ?_ (by first | omega | (simp; done) | (simp; omega)) _ | refine below_tr (by assumption) ?_ (by first | omega | (simp; done) | (simp; omega)) | fail))
  have z1 : w.heap.size < w1.heap.size := by have := hb1.size; simp at this; omega
  have y0 := cell_of_row w1 w.heap.size 0 _ 23 (0, 0) hx1
  have y1 := cell_of_row w1 w.heap.size 1 _ 23 (0, 0) hx1
  have y2 := cell_of_row w1 w.heap.size 2 _ 23 (0, 0) hx1
  clear hb1 hx1
  go_wp2
  go_ret2
  exact ⟨rfl, hB1⟩
set_option maxHeartbeats 4000000 in
theorem same_true (g h : Nat) (M F Z n q b u : Int) (w : World) (hp : Pt w g M F Z n true q b u) (hr : Rt w h M F Z n true q b u) : Calls Try.prog 17 #[.pointer (some ⟨g, 0, none⟩), .pointer (some ⟨h, 0, none⟩)] w fun e w' => e = .returned (.bool true) ∧ Below w.heap.size w w' := by
  have HP := Lib.hid hp
  have HR := Lib.hid hr
  clear hp hr
  go_enter Try.func17, Try.ntmps17
  go_wp2_with fail
  refine (popen_t _ _ _ _ _ _ _ _ _ _ HP.out rfl).mono ?_
  rintro e w1 ⟨rfl, hb1⟩
  have HP1 := Lib.hid (HP.out.below hb1)
  have HR1 := Lib.hid (HR.out.below hb1)
  have c3 := HR1.out.cells.c3
  have c5 := HR1.out.cells.c5
  have c6 := HR1.out.cells.c6
  have c7 := HR1.out.cells.c7
  have hl := HR1.out.cells.lt
  go_wp2_with fail
  go_region_held3 (fun w' => Below w1.heap.size w1 w' ∧ ∀ a : Addr, a.block < w1.heap.size → w'.cell? a = w1.cell? a) (first | exact keep0 _ | assumption | exact keepB (by repeat (first | with_reducible exact Below.refl _ _ | with_reducible assumption | with_reducible refine Below.drew ?_ | with_reducible refine below_dN ?_ _ | with_reducible refine Below.setCell ?_ (by first | omega | (simp; done) | (simp; omega)) _ | with_reducible refine below_al ?_ (by first | omega | (simp; done) | (simp; omega)) _ | exact Below.refl _ _ | assumption | refine Below.drew ?_ | refine below_dN ?_ _ | refine Below.setCell ?_ (by first | omega | (simp; done) | (simp; omega)) _ | refine below_al ?_ (by first | omega | (simp; done) | (simp; omega)) _ | refine below_tr (by assumption) ?_ (by first | omega | (simp; done) | (simp; omega)) | fail)) | exact keep1 (by assumption) (by first | assumption | exact (Below.refl _ _).drew | exact And.left (by assumption)) (by first | omega | (simp; done) | (simp; omega))) (first | (go_at_call 10; refine (pstate _ _ _ _ _ _ _ _ _ _ (HP1.out.below (by first | assumption | exact (Below.refl _ _).drew | exact And.left (by assumption)))).mono ?_; rintro e w' ⟨rfl, hbn⟩) | (go_at_call 37; refine (rstate _ _ _ _ _ _ _ _ _ _ (HR1.out.below (by first | assumption | exact (Below.refl _ _).drew | exact And.left (by assumption)))).mono ?_; rintro e w' ⟨rfl, hbn⟩) | (go_at_call 12; refine (perrors _ _ _ _ _ _ _ _ _ _ (HP1.out.below (by first | assumption | exact (Below.refl _ _).drew | exact And.left (by assumption)))).mono ?_; rintro e w' ⟨rfl, rfl⟩))
  go_wp2
  go_ret
  exact ⟨rfl, below_tr (And.left ‹Below w1.heap.size w1 _ ∧ _›) hb1 (Nat.le_refl _)⟩
set_option maxHeartbeats 4000000 in
theorem same_false (g h : Nat) (M F Z n q b u : Int) (w : World) (hp : Pt w g M F Z n false q b u) (hr : Rt w h M F Z n false q b u) : Calls Try.prog 17 #[.pointer (some ⟨g, 0, none⟩), .pointer (some ⟨h, 0, none⟩)] w fun e w' => e = .returned (.bool true) ∧ Below w.heap.size w w' := by
  have HP := Lib.hid hp
  have HR := Lib.hid hr
  clear hp hr
  go_enter Try.func17, Try.ntmps17
  go_wp2_with fail
  refine (popen_n _ _ _ _ _ _ _ _ _ _ HP.out rfl).mono ?_
  rintro e w1 ⟨rfl, hb1⟩
  have HP1 := Lib.hid (HP.out.below hb1)
  have HR1 := Lib.hid (HR.out.below hb1)
  have c3 := HR1.out.cells.c3
  have c5 := HR1.out.cells.c5
  have c6 := HR1.out.cells.c6
  have c7 := HR1.out.cells.c7
  have hl := HR1.out.cells.lt
  go_wp2_with fail
  go_region_held3 (fun w' => Below w1.heap.size w1 w' ∧ ∀ a : Addr, a.block < w1.heap.size → w'.cell? a = w1.cell? a) (first | exact keep0 _ | assumption | exact keepB (by repeat (first | with_reducible exact Below.refl _ _ | with_reducible assumption | with_reducible refine Below.drew ?_ | with_reducible refine below_dN ?_ _ | with_reducible refine Below.setCell ?_ (by first | omega | (simp; done) | (simp; omega)) _ | with_reducible refine below_al ?_ (by first | omega | (simp; done) | (simp; omega)) _ | exact Below.refl _ _ | assumption | refine Below.drew ?_ | refine below_dN ?_ _ | refine Below.setCell ?_ (by first | omega | (simp; done) | (simp; omega)) _ | refine below_al ?_ (by first | omega | (simp; done) | (simp; omega)) _ | refine below_tr (by assumption) ?_ (by first | omega | (simp; done) | (simp; omega)) | fail)) | exact keep1 (by assumption) (by first | assumption | exact (Below.refl _ _).drew | exact And.left (by assumption)) (by first | omega | (simp; done) | (simp; omega))) (first | (go_at_call 10; refine (pstate _ _ _ _ _ _ _ _ _ _ (HP1.out.below (by first | assumption | exact (Below.refl _ _).drew | exact And.left (by assumption)))).mono ?_; rintro e w' ⟨rfl, hbn⟩) | (go_at_call 37; refine (rstate _ _ _ _ _ _ _ _ _ _ (HR1.out.below (by first | assumption | exact (Below.refl _ _).drew | exact And.left (by assumption)))).mono ?_; rintro e w' ⟨rfl, hbn⟩) | (go_at_call 12; refine (perrors _ _ _ _ _ _ _ _ _ _ (HP1.out.below (by first | assumption | exact (Below.refl _ _).drew | exact And.left (by assumption)))).mono ?_; rintro e w' ⟨rfl, rfl⟩))
  go_wp2
  go_ret
  exact ⟨rfl, below_tr (And.left ‹Below w1.heap.size w1 _ ∧ _›) hb1 (Nat.le_refl _)⟩
theorem same (g h : Nat) (M F Z n : Int) (o : Bool) (q b u : Int) (w : World) (hp : Pt w g M F Z n o q b u) (hr : Rt w h M F Z n o q b u) : Calls Try.prog 17 #[.pointer (some ⟨g, 0, none⟩), .pointer (some ⟨h, 0, none⟩)] w fun e w' => e = .returned (.bool true) ∧ Below w.heap.size w w' := by
  cases o
  · exact same_false g h M F Z n q b u w hp hr
  · exact same_true g h M F Z n q b u w hp hr
