/- Layer 16: Take where it refuses. -/
import Derived.Test.YtbppdgekjdpgiaaJ
namespace Go.Proofs.Ytbppdgekjdpgiaa.C
open Go.RowKit
set_option linter.unusedVariables false
set_option linter.unusedSimpArgs false
attribute [local go_sem high] max2_mx min2_mn max_two min_two
attribute [local go_sem ↓] Go.wp_at_zero Go.wp_at_succ

/-- a piece -/
def part (s ssn proto : Int) (un : Bool) (A : Option Addr) (n c : Nat) (bg en : Bool) : Value := .agg #[.int .u16 s, .int .u16 ssn, .int .u32 proto, .bool un, .slice A n c, .bool bg, .bool en]
def noPart : Value := part 0 0 0 false none 0 0 false false
set_option maxHeartbeats 2000000 in
theorem take_n (base g : Nat) (q : QS) (L : Lay) (x : Int) (w : World) (h : QM w base g q L) (hx : x < 1) :
    Calls Try.prog 12 #[.pointer (some ⟨g, 0, none⟩), .int .i64 x] w fun e w' => e = .returned (.tuple #[noPart, .bool false]) ∧ Below w.heap.size w w' := by
  have hu36 := Try.underlying36
  have hu34 := Try.underlying34
  have H := Lib.hid h
  clear h
  go_enter Try.func12, Try.ntmps12
  go_wp2_with fail
  refine (is_ base g q L _ (H.out.below ((Below.refl _ _).alloc (Nat.le_refl _) _))).mono ?_
  rintro e w' ⟨rfl, rfl⟩
  go_wp2
  exact bodyPost_ret (v := .tuple #[noPart, .bool false]) (by simp [results, Try.results12, go_sem, noPart, part]) rfl ⟨rfl, (by repeat (first | with_reducible exact Below.refl _ _ | with_reducible assumption | with_reducible refine Below.drew ?_ | with_reducible refine below_dN ?_ _ | with_reducible refine Below.setCell ?_ (by first | omega | (simp; done) | (simp; omega)) _ | with_reducible refine below_al ?_ (by first | omega | (simp; done) | (simp; omega)) _ | exact Below.refl _ _ | assumption | refine Below.drew ?_ | refine below_dN ?_ _ | refine Below.setCell ?_ (by first | omega | (simp; done) | (simp; omega)) _ | refine below_al ?_ (by first | omega | (simp; done) | (simp; omega)) _ | refine below_tr (by assumption) ?_ (by first | omega | (simp; done) | (simp; omega)) | fail))⟩
set_option maxHeartbeats 2000000 in
theorem take_f (base g : Nat) (q : QS) (L : Lay) (k : Ok q) (x : Int) (w : World) (h : QM w base g q L) (hx : 1 ≤ x) (hn : nextF q < 0) :
    Calls Try.prog 12 #[.pointer (some ⟨g, 0, none⟩), .int .i64 x] w fun e w' => e = .returned (.tuple #[noPart, .bool false]) ∧ Below w.heap.size w w' := by
  have hu36 := Try.underlying36
  have hu34 := Try.underlying34
  have H := Lib.hid h
  have HK := Lib.hid k
  clear h k
  go_enter Try.func12, Try.ntmps12
  go_wp2_with fail
  refine (is_ base g q L _ (H.out.below ((Below.refl _ _).alloc (Nat.le_refl _) _))).mono ?_
  rintro e w' ⟨rfl, rfl⟩
  go_wp2_with fail
  refine (next base g q L HK.out _ (H.out.below ((Below.refl _ _).alloc (Nat.le_refl _) _))).mono ?_
  rintro e w1 ⟨rfl, hb1⟩
  have hr := (hb1.block w.heap.size (by simp)).trans (heap_alloc_new w _)
  have hB1 : Below w.heap.size w w1 := (by repeat (first | with_reducible exact Below.refl _ _ | with_reducible assumption | with_reducible refine Below.drew ?_ | with_reducible refine below_dN ?_ _ | with_reducible refine Below.setCell ?_ (by first | omega | (simp; done) | (simp; omega)) _ | with_reducible refine below_al ?_ (by first | omega | (simp; done) | (simp; omega)) _ | exact Below.refl _ _ | assumption | refine Below.drew ?_ | refine below_dN ?_ _ | refine Below.setCell ?_ (by first | omega | (simp; done) | (simp; omega)) _ | refine below_al ?_ (by first | omega | (simp; done) | (simp; omega)) _ | refine below_tr (by assumption) ?_ (by first | omega | (simp; done) | (simp; omega)) | fail))
  have z1 : w.heap.size < w1.heap.size := by have := hb1.size; simp at this; omega
  have y0 := cell_of_row w1 w.heap.size 0 _ 36 (0, 0) hr
  have y1 := cell_of_row w1 w.heap.size 1 _ 36 (0, 0) hr
  have y2 := cell_of_row w1 w.heap.size 2 _ 36 (0, 0) hr
  have y3 := cell_of_row w1 w.heap.size 3 _ 36 (0, 0) hr
  have y4 := cell_of_row w1 w.heap.size 4 _ 36 (0, 0) hr
  have y5 := cell_of_row w1 w.heap.size 5 _ 36 (0, 0) hr
  have y6 := cell_of_row w1 w.heap.size 6 _ 36 (0, 0) hr
  have yf := fun j => frozen_of_row w1 w.heap.size j _ 36 hr
  clear hb1 hr
  go_wp2
  exact bodyPost_ret (v := .tuple #[noPart, .bool false]) (by simp [results, Try.results12, go_sem, noPart, part, y0, y1, y2, y3, y4, y5, y6]) rfl ⟨rfl, by (repeat (refine Below.setCell ?_ (by first | omega | (simp; done) | (simp; omega)) _)); exact hB1⟩
