/- Contracts of layer 11: the small functions of a path. -/
import Derived.Test.YtncmklpnppenmaaK
import Derived.Deep.QuietTactic
import Derived.Deep.RegionHeld3
import Derived.Deep.DrawnRows
import Derived.BigQuiet
import Derived.StillTailTactics
namespace Go.Proofs.Ytncmklpnppenmaa.C
open Go.RowKit
set_option linter.unusedVariables false
set_option linter.unusedSimpArgs false
attribute [local go_sem high] max2_mx min2_mn max_two min_two
attribute [local go_sem ↓] Go.wp_at_zero Go.wp_at_succ

/-- a path lies in block g -/
def Pt (w : World) (g : Nat) (M F Z n : Int) (o : Bool) (q b u : Int) : Prop :=
  w.heap[g]? = some (.cells #[.int .i64 M, .int .i64 F, .int .i64 Z, .int .i64 n, .bool o, .int .u32 q, .int .i64 b, .bool true, .int .i64 u] 56 (0, 0))
structure PtC (w : World) (g : Nat) (M F Z n : Int) (o : Bool) (q b u : Int) : Prop where
  c0 : w.cell? ⟨g, 0, none⟩ = some (.int .i64 M)
  c1 : w.cell? ⟨g, 1, none⟩ = some (.int .i64 F)
  c2 : w.cell? ⟨g, 2, none⟩ = some (.int .i64 Z)
  c3 : w.cell? ⟨g, 3, none⟩ = some (.int .i64 n)
  c4 : w.cell? ⟨g, 4, none⟩ = some (.bool o)
  c5 : w.cell? ⟨g, 5, none⟩ = some (.int .u32 q)
  c6 : w.cell? ⟨g, 6, none⟩ = some (.int .i64 b)
  c7 : w.cell? ⟨g, 7, none⟩ = some (.bool true)
  c8 : w.cell? ⟨g, 8, none⟩ = some (.int .i64 u)
  fr : ∀ j, w.frozen? ⟨g, j, none⟩ = false
  lt : g < w.heap.size
theorem Pt.cells {w : World} {g : Nat} {M F Z n : Int} {o : Bool} {q b u : Int} (h : Pt w g M F Z n o q b u) : PtC w g M F Z n o q b u :=
  ⟨cell_of_row w g 0 _ 56 (0, 0) h, cell_of_row w g 1 _ 56 (0, 0) h, cell_of_row w g 2 _ 56 (0, 0) h, cell_of_row w g 3 _ 56 (0, 0) h, cell_of_row w g 4 _ 56 (0, 0) h, cell_of_row w g 5 _ 56 (0, 0) h, cell_of_row w g 6 _ 56 (0, 0) h, cell_of_row w g 7 _ 56 (0, 0) h, cell_of_row w g 8 _ 56 (0, 0) h, fun j => frozen_of_row w g j _ 56 h, (Array.getElem?_eq_some_iff.1 h).1⟩
theorem Pt.below {w w' : World} {g : Nat} {M F Z n : Int} {o : Bool} {q b u : Int} (h : Pt w g M F Z n o q b u) (hb : Below w.heap.size w w') : Pt w' g M F Z n o q b u := by
  unfold Pt; rw [hb.block g (Array.getElem?_eq_some_iff.1 h).1]; exact h
theorem Pt.set3 {w : World} {g : Nat} {M F Z n : Int} {o : Bool} {q b u : Int} (h : Pt w g M F Z n o q b u) (x : Int) : Pt (w.setCell ⟨g, 3, none⟩ (.int .i64 x)) g M F Z x o q b u := heap_setCell_same w g 3 _ 56 _ h
theorem Pt.set4 {w : World} {g : Nat} {M F Z n : Int} {o : Bool} {q b u : Int} (h : Pt w g M F Z n o q b u) (x : Bool) : Pt (w.setCell ⟨g, 4, none⟩ (.bool x)) g M F Z n x q b u := heap_setCell_same w g 4 _ 56 _ h
theorem Pt.set5 {w : World} {g : Nat} {M F Z n : Int} {o : Bool} {q b u : Int} (h : Pt w g M F Z n o q b u) (x : Int) : Pt (w.setCell ⟨g, 5, none⟩ (.int .u32 x)) g M F Z n o x b u := heap_setCell_same w g 5 _ 56 _ h
theorem Pt.set6 {w : World} {g : Nat} {M F Z n : Int} {o : Bool} {q b u : Int} (h : Pt w g M F Z n o q b u) (x : Int) : Pt (w.setCell ⟨g, 6, none⟩ (.int .i64 x)) g M F Z n o q x u := heap_setCell_same w g 6 _ 56 _ h
theorem Pt.set8 {w : World} {g : Nat} {M F Z n : Int} {o : Bool} {q b u : Int} (h : Pt w g M F Z n o q b u) (x : Int) : Pt (w.setCell ⟨g, 8, none⟩ (.int .i64 x)) g M F Z n o q b x := heap_setCell_same w g 8 _ 56 _ h
theorem grown_set (w : World) (g j : Nat) (v : Value) : w.grownBy (w.setCell ⟨g, j, none⟩ v) (some g) :=
  ⟨rfl, rfl, rfl, by simp, fun k _ hk => heap_setCell_other w ⟨g, j, none⟩ k v (fun e => hk (by simp [e]))⟩
theorem grown_below {w w' : World} {r : Option Nat} (h : Below w.heap.size w w') : w.grownBy w' r := ⟨h.os, h.tape, h.output, h.size, fun k hk _ => h.block k hk⟩
theorem grown_tr {a b c : World} {r : Option Nat} (h1 : a.grownBy b r) (h2 : b.grownBy c r) : a.grownBy c r :=
  ⟨h2.os.trans h1.os, h2.tape.trans h1.tape, h2.output.trans h1.output, Nat.le_trans h1.size h2.size, fun k hk hr => (h2.block k (Nat.lt_of_lt_of_le hk h1.size) hr).trans (h1.block k hk hr)⟩
theorem grown_refl (a : World) (r : Option Nat) : a.grownBy a r := ⟨rfl, rfl, rfl, Nat.le_refl _, fun _ _ _ => rfl⟩
theorem grown_dN {a b : World} {r : Option Nat} (h : a.grownBy b r) (d : Nat) : a.grownBy (b.drewN d) r := ⟨h.os, h.tape, h.output, h.size, h.block⟩
theorem grown_drew {a b : World} {r : Option Nat} (h : a.grownBy b r) : a.grownBy b.drew r := ⟨h.os, h.tape, h.output, h.size, h.block⟩
theorem Pt.dN {w : World} {g : Nat} {M F Z n : Int} {o : Bool} {q b u : Int} (h : Pt w g M F Z n o q b u) (d : Nat) : Pt (w.drewN d) g M F Z n o q b u := h
theorem Pt.drew {w : World} {g : Nat} {M F Z n : Int} {o : Bool} {q b u : Int} (h : Pt w g M F Z n o q b u) : Pt w.drew g M F Z n o q b u := h
/-- what a call tells, and what it leaves of the path at g -/
def Chg (w : World) (g : Nat) (M F Z n : Int) (o : Bool) (q b u : Int) (v : Value) (e : Ending) (w' : World) : Prop := e = .returned v ∧ Pt w' g M F Z n o q b u ∧ w.grownBy w' (some g)

theorem name_world2 {P : Program} {f : Nat} {args : Array Value} {Q : Ending → World → Prop} {w : World} (h : ∀ W, W = w → Calls P f args W Q) : Calls P f args w Q := h w rfl
def inB (x low high : Int) : Bool := decide (low ≤ x ∧ x ≤ high)
theorem inB_t {x low high : Int} (h : inB x low high = true) : low ≤ x ∧ x ≤ high := by simpa [inB] using h
theorem inB_f {x low high : Int} (h : inB x low high = false) : ¬ (low ≤ x ∧ x ≤ high) := by simpa [inB] using h
set_option maxHeartbeats 400000 in
theorem isTime (x : Int) (w : World) : Calls Try.prog 22 #[.int .i64 x] w fun e w' => e = .returned (.bool (inB x 0 1099511627776)) ∧ w = w' := by
  go_enter Try.func22, Try.ntmps22
  go_wp2
  all_goals
    go_ret
    exact ⟨ret_bool (by simp [inB]; omega), rfl⟩
set_option maxHeartbeats 400000 in
theorem rtime (x : Int) (w : World) : Calls Try.prog 29 #[.int .i64 x] w fun e w' => e = .returned (.bool (inB x 0 1099511627776)) ∧ w = w' := by
  go_enter Try.func29, Try.ntmps29
  go_wp2
  all_goals
    go_ret
    exact ⟨ret_bool (by simp [inB]; omega), rfl⟩
set_option maxHeartbeats 400000 in
theorem pok (g : Nat) (M F Z n : Int) (o : Bool) (q b u : Int) (w : World) (h : Pt w g M F Z n o q b u) : Calls Try.prog 23 #[.pointer (some ⟨g, 0, none⟩)] w fun e w' => e = .returned (.bool true) ∧ w = w' := by
  have c7 := h.cells.c7
  clear h
  go_enter Try.func23, Try.ntmps23
  go_wp2
  go_ret
  exact ⟨rfl, rfl⟩
/-- how it does -/
def stV (M F n : Int) : Int := if M < n then 3 else if F < n then 2 else 1
set_option maxHeartbeats 1000000 in
theorem state (g : Nat) (M F Z n : Int) (o : Bool) (q b u : Int) (w : World) (h : Pt w g M F Z n o q b u) : Calls Try.prog 25 #[.pointer (some ⟨g, 0, none⟩)] w fun e w' => e = .returned (.int .i64 (stV M F n)) ∧ Below w.heap.size w w' := by
  have c0 := h.cells.c0
  have c1 := h.cells.c1
  have c3 := h.cells.c3
  clear h
  by_cases h1 : M < n
  · go_enter Try.func25, Try.ntmps25
    go_wp2_with fail
    go_quiet (fail)
    go_wp2
    go_ret
    exact ⟨ret_int (by unfold stV; (repeat' split) <;> omega), (by repeat (first | with_reducible exact Below.refl _ _ | with_reducible assumption | with_reducible refine Below.drew ?_ | with_reducible refine below_dN ?_ _ | with_reducible refine Below.setCell ?_ (by first | omega | (simp; done) | (simp; omega)) _ | with_reducible refine below_al ?_ (by first | omega | (simp; done) | (simp; omega)) _ | exact Below.refl _ _ | assumption | refine Below.drew ?_ | refine below_dN ?_ _ | refine Below.setCell ?_ (by first | omega | (simp; done) | (simp; omega)) _ | refine below_al ?_ (by first | omega | (simp; done) | (simp; omega)) _ | refine below_tr (by assumption) ?_ (by first | omega | (simp; done) | (simp; omega)) | fail))⟩
  · by_cases h2 : F < n
    all_goals
      go_enter Try.func25, Try.ntmps25
      go_wp2_with fail
      go_quiet (fail)
      go_wp2
      go_quiet (fail)
      go_wp2
      go_ret
      exact ⟨ret_int (by unfold stV; (repeat' split) <;> omega), (by repeat (first | with_reducible exact Below.refl _ _ | with_reducible assumption | with_reducible refine Below.drew ?_ | with_reducible refine below_dN ?_ _ | with_reducible refine Below.setCell ?_ (by first | omega | (simp; done) | (simp; omega)) _ | with_reducible refine below_al ?_ (by first | omega | (simp; done) | (simp; omega)) _ | exact Below.refl _ _ | assumption | refine Below.drew ?_ | refine below_dN ?_ _ | refine Below.setCell ?_ (by first | omega | (simp; done) | (simp; omega)) _ | refine below_al ?_ (by first | omega | (simp; done) | (simp; omega)) _ | refine below_tr (by assumption) ?_ (by first | omega | (simp; done) | (simp; omega)) | fail))⟩
set_option maxHeartbeats 1000000 in
theorem timed (x g : Int) (B : Nat) (M F Z n : Int) (o : Bool) (q b u : Int) (w : World) (h : Pt w B M F Z n o q b u) : Calls Try.prog 26 #[.pointer (some ⟨B, 0, none⟩), .int .i64 x] w fun e w' => e = .returned (.int .i64 (if inB x 0 1099511627776 = true then 0 else 1)) ∧ w = w' := by
  have H := Lib.hid h
  clear h
  cases hx : inB x 0 1099511627776
  all_goals
    go_enter Try.func26, Try.ntmps26
    go_wp2_with fail
    refine (pok _ _ _ _ _ _ _ _ _ _ H.out).mono ?_
    rintro e w' ⟨rfl, rfl⟩
    go_wp2_with fail
    refine (isTime _ _).mono ?_
    rw [hx]
    rintro e w' ⟨rfl, rfl⟩
    go_wp2
    go_ret
    exact ⟨rfl, rfl⟩
set_option maxHeartbeats 1000000 in
theorem close (g : Nat) (M F Z n : Int) (o : Bool) (q b u : Int) (w : World) (h : Pt w g M F Z n o q b u) : Calls Try.prog 27 #[.pointer (some ⟨g, 4, none⟩)] w (Chg w g M F Z n false q b u (.bool o)) := by
  have c4 := h.cells.c4
  have f4 := h.cells.fr 4
  have H := Lib.hid h
  clear h
  go_enter Try.func27, Try.ntmps27
  go_wp2
  go_ret
  exact ⟨rfl, H.out.set4 _, grown_set _ _ _ _⟩
set_option maxHeartbeats 2000000 in
theorem turn (g : Nat) (M F Z n : Int) (o : Bool) (q b u x : Int) (w : World) (h : Pt w g M F Z n o q b u) (m0 : 0 ≤ M) (m1 : M ≤ 100) : Calls Try.prog 24 #[.pointer (some ⟨g, 0, none⟩), .int .i64 x] w (Chg w g M F Z (mn x (M + 1)) o q b u (.bool (stV M F (mn x (M + 1)) != stV M F n))) := by
  have H := Lib.hid h
  clear h
  go_enter Try.func24, Try.ntmps24
  go_wp2_with fail
  refine (state _ _ _ _ _ _ _ _ _ _ H.out).mono ?_
  rintro e w1 ⟨rfl, hb1⟩
  have H1 := Lib.hid (H.out.below hb1)
  have c0 := H1.out.cells.c0
  have c3 := H1.out.cells.c3
  have f3 := H1.out.cells.fr 3
  have HB1 := Lib.hid hb1
  clear hb1
  go_wp2_with fail
  refine name_world2 ?_
  intro w2 hw2
  have H2 : Pt w2 g M F Z (mn x (M + 1)) o q b u := by subst hw2; exact H1.out.set3 _
  have g2 : w.grownBy w2 (some g) := by subst hw2; exact grown_tr (grown_below HB1.out) (grown_set _ _ _ _)
  clear hw2 c0 c3 f3
  refine (state _ _ _ _ _ _ _ _ _ _ H2).mono ?_
  rintro e w3 ⟨rfl, hb3⟩
  have H3 := H2.below hb3
  have g3 := grown_tr g2 (grown_below hb3)
  have HH := Lib.hid H3
  clear H2 H3 g2 hb3
  go_wp2
  go_ret
  exact ⟨rfl, HH.out, g3⟩
