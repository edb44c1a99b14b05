/- Contracts of layer 11: the reference's path. -/
import Derived.Test.YtncmklpnppenmaaF
namespace Go.Proofs.Ytncmklpnppenmaa.C
open Go.RowKit
set_option linter.unusedVariables false
set_option linter.unusedSimpArgs false
attribute [local go_sem high] max2_mx min2_mn max_two min_two
attribute [local go_sem ↓] Go.wp_at_zero Go.wp_at_succ

/-- the reference's path lies in block g -/
def Rt (w : World) (g : Nat) (M F Z n : Int) (o : Bool) (q b u : Int) : Prop :=
  w.heap[g]? = some (.cells #[.int .i64 M, .int .i64 F, .int .i64 Z, .int .i64 n, .int .i64 u, .bool o, .int .u32 q, .int .i64 b] 66 (0, 0))
structure RtC (w : World) (g : Nat) (M F Z n : Int) (o : Bool) (q b u : Int) : Prop where
  c0 : w.cell? ⟨g, 0, none⟩ = some (.int .i64 M)
  c1 : w.cell? ⟨g, 1, none⟩ = some (.int .i64 F)
  c2 : w.cell? ⟨g, 2, none⟩ = some (.int .i64 Z)
  c3 : w.cell? ⟨g, 3, none⟩ = some (.int .i64 n)
  c4 : w.cell? ⟨g, 4, none⟩ = some (.int .i64 u)
  c5 : w.cell? ⟨g, 5, none⟩ = some (.bool o)
  c6 : w.cell? ⟨g, 6, none⟩ = some (.int .u32 q)
  c7 : w.cell? ⟨g, 7, none⟩ = some (.int .i64 b)
  fr : ∀ j, w.frozen? ⟨g, j, none⟩ = false
  lt : g < w.heap.size
theorem Rt.cells {w : World} {g : Nat} {M F Z n : Int} {o : Bool} {q b u : Int} (h : Rt w g M F Z n o q b u) : RtC w g M F Z n o q b u :=
  ⟨cell_of_row w g 0 _ 66 (0, 0) h, cell_of_row w g 1 _ 66 (0, 0) h, cell_of_row w g 2 _ 66 (0, 0) h, cell_of_row w g 3 _ 66 (0, 0) h, cell_of_row w g 4 _ 66 (0, 0) h, cell_of_row w g 5 _ 66 (0, 0) h, cell_of_row w g 6 _ 66 (0, 0) h, cell_of_row w g 7 _ 66 (0, 0) h, fun j => frozen_of_row w g j _ 66 h, (Array.getElem?_eq_some_iff.1 h).1⟩
theorem Rt.below {w w' : World} {g : Nat} {M F Z n : Int} {o : Bool} {q b u : Int} (h : Rt w g M F Z n o q b u) (hb : Below w.heap.size w w') : Rt w' g M F Z n o q b u := by
  unfold Rt; rw [hb.block g (Array.getElem?_eq_some_iff.1 h).1]; exact h
theorem Rt.set3 {w : World} {g : Nat} {M F Z n : Int} {o : Bool} {q b u : Int} (h : Rt w g M F Z n o q b u) (x : Int) : Rt (w.setCell ⟨g, 3, none⟩ (.int .i64 x)) g M F Z x o q b u := heap_setCell_same w g 3 _ 66 _ h
theorem Rt.set4 {w : World} {g : Nat} {M F Z n : Int} {o : Bool} {q b u : Int} (h : Rt w g M F Z n o q b u) (x : Int) : Rt (w.setCell ⟨g, 4, none⟩ (.int .i64 x)) g M F Z n o q b x := heap_setCell_same w g 4 _ 66 _ h
theorem Rt.set5 {w : World} {g : Nat} {M F Z n : Int} {o : Bool} {q b u : Int} (h : Rt w g M F Z n o q b u) (x : Bool) : Rt (w.setCell ⟨g, 5, none⟩ (.bool x)) g M F Z n x q b u := heap_setCell_same w g 5 _ 66 _ h
theorem Rt.set6 {w : World} {g : Nat} {M F Z n : Int} {o : Bool} {q b u : Int} (h : Rt w g M F Z n o q b u) (x : Int) : Rt (w.setCell ⟨g, 6, none⟩ (.int .u32 x)) g M F Z n o x b u := heap_setCell_same w g 6 _ 66 _ h
theorem Rt.set7 {w : World} {g : Nat} {M F Z n : Int} {o : Bool} {q b u : Int} (h : Rt w g M F Z n o q b u) (x : Int) : Rt (w.setCell ⟨g, 7, none⟩ (.int .i64 x)) g M F Z n o q x u := heap_setCell_same w g 7 _ 66 _ h
theorem Rt.drew {w : World} {g : Nat} {M F Z n : Int} {o : Bool} {q b u : Int} (h : Rt w g M F Z n o q b u) : Rt w.drew g M F Z n o q b u := h
theorem Rt.dN {w : World} {g : Nat} {M F Z n : Int} {o : Bool} {q b u : Int} (h : Rt w g M F Z n o q b u) (d : Nat) : Rt (w.drewN d) g M F Z n o q b u := h
/-- what a call tells, and what it leaves of the reference's path at g -/
def Chr (w : World) (g : Nat) (M F Z n : Int) (o : Bool) (q b u : Int) (v : Value) (e : Ending) (w' : World) : Prop := e = .returned v ∧ Rt w' g M F Z n o q b u ∧ w.grownBy w' (some g)
set_option maxHeartbeats 2000000 in
theorem rstate (g : Nat) (M F Z n : Int) (o : Bool) (q b u : Int) (w : World) (h : Rt w g M F Z n o q b u)  : Calls Try.prog 37 #[.pointer (some ⟨g, 0, none⟩)] w fun e w' => e = .returned (.int .i64 (stV M F n)) ∧ Below w.heap.size w w' := by
  have c0 := h.cells.c0
  have c1 := h.cells.c1
  have c3 := h.cells.c3
  clear h
  by_cases h1 : M < n
  · go_enter Try.func37, Try.ntmps37
    go_wp2_with fail
    go_quiet (fail)
    go_wp2
    go_ret
    exact ⟨ret_int (by unfold stV; (repeat' split) <;> omega), (by repeat (first | with_reducible exact Below.refl _ _ | with_reducible assumption | with_reducible refine Below.drew ?_ | with_reducible refine below_dN ?_ _ | with_reducible refine Below.setCell ?_ (by first | omega | (simp; done) | (simp; omega)) _ | with_reducible refine below_al ?_ (by first | omega | (simp; done) | (simp; omega)) _ | exact Below.refl _ _ | assumption | refine Below.drew ?_ | refine below_dN ?_ _ | refine Below.setCell ?_ (by first | omega | (simp; done) | (simp; omega)) _ | refine below_al ?_ (by first | omega | (simp; done) | (simp; omega)) _ | refine below_tr (by assumption) ?_ (by first | omega | (simp; done) | (simp; omega)) | fail))⟩
  · by_cases h2 : F < n
    all_goals
      go_enter Try.func37, Try.ntmps37
      go_wp2_with fail
      go_quiet (fail)
      go_wp2
      go_quiet (fail)
      go_wp2
      go_ret
      exact ⟨ret_int (by unfold stV; (repeat' split) <;> omega), (by repeat (first | with_reducible exact Below.refl _ _ | with_reducible assumption | with_reducible refine Below.drew ?_ | with_reducible refine below_dN ?_ _ | with_reducible refine Below.setCell ?_ (by first | omega | (simp; done) | (simp; omega)) _ | with_reducible refine below_al ?_ (by first | omega | (simp; done) | (simp; omega)) _ | exact Below.refl _ _ | assumption | refine Below.drew ?_ | refine below_dN ?_ _ | refine Below.setCell ?_ (by first | omega | (simp; done) | (simp; omega)) _ | refine below_al ?_ (by first | omega | (simp; done) | (simp; omega)) _ | refine below_tr (by assumption) ?_ (by first | omega | (simp; done) | (simp; omega)) | fail))⟩
set_option maxHeartbeats 2000000 in
theorem rgood (g : Nat) (M F Z n : Int) (o : Bool) (q b u : Int) (w : World) (h : Rt w g M F Z n o q b u)  : Calls Try.prog 31 #[.pointer (some ⟨g, 0, none⟩)] w (Chr w g M F Z 0 o q b u (.bool (chB M F n 0))) := by
  have H := Lib.hid h
  clear h
  go_enter Try.func31, Try.ntmps31
  go_wp2_with fail
  refine (rstate _ _ _ _ _ _ _ _ _ _ H.out).mono ?_
  rintro e w1 ⟨rfl, hb1⟩
  have H1 := Lib.hid (H.out.below hb1)
  have HB1 := Lib.hid hb1
  clear hb1
  have f3 := H1.out.cells.fr 3
  have c3 := H1.out.cells.c3
  go_wp2_with fail
  refine name_world2 ?_
  intro w2 hw2
  have H2 : Rt w2 g M F Z 0 o q b u := by subst hw2; exact H1.out.set3 _
  have g2 : w.grownBy w2 (some g) := by subst hw2; exact grown_tr (grown_below HB1.out) (grown_set _ _ _ _)
  clear hw2 f3 c3
  refine (rstate _ _ _ _ _ _ _ _ _ _ H2).mono ?_
  rintro e w3 ⟨rfl, hb3⟩
  have HH := Lib.hid (H2.below hb3)
  have g3 := grown_tr g2 (grown_below hb3)
  clear H2 g2 hb3
  go_wp2
  go_ret
  exact ⟨rfl, HH.out, g3⟩
set_option maxHeartbeats 2000000 in
theorem rfail (g : Nat) (M F Z n : Int) (o : Bool) (q b u : Int) (w : World) (h : Rt w g M F Z n o q b u) (k : Ok M F Z n q b u) : Calls Try.prog 30 #[.pointer (some ⟨g, 0, none⟩)] w (Chr w g M F Z (failN M n) o q b u (.bool (chB M F n (failN M n)))) := by
  have n0 := k.n0
  have n1 := k.n1
  have m1 := k.m1
  have m0 : 0 ≤ M := Int.le_trans k.f0 k.f1
  clear k
  by_cases hn : n ≤ M
  · have hf : failN M n = n + 1 := by unfold failN; rw [if_pos hn]
    rw [hf]
    have H := Lib.hid h
    clear h hf
    go_enter Try.func30, Try.ntmps30
    go_wp2_with fail
    refine (rstate _ _ _ _ _ _ _ _ _ _ H.out).mono ?_
    rintro e w1 ⟨rfl, hb1⟩
    have H1 := Lib.hid (H.out.below hb1)
    have HB1 := Lib.hid hb1
    clear hb1
    have f3 := H1.out.cells.fr 3
    have c3 := H1.out.cells.c3
    have c0 := H1.out.cells.c0
    go_wp2_with fail
    go_quiet (fail)
    go_wp2_with fail
    refine name_world2 ?_
    intro w2 hw2
    have H2 : Rt w2 g M F Z (n + 1) o q b u := by subst hw2; exact (H1.out.dN _).set3 _
    have g2 : w.grownBy w2 (some g) := by subst hw2; exact grown_tr (grown_dN (grown_below HB1.out) _) (grown_set _ _ _ _)
    clear hw2 f3 c3 c0
    refine (rstate _ _ _ _ _ _ _ _ _ _ H2).mono ?_
    rintro e w3 ⟨rfl, hb3⟩
    have HH := Lib.hid (H2.below hb3)
    have g3 := grown_tr g2 (grown_below hb3)
    clear H2 g2 hb3
    go_wp2
    go_ret
    exact ⟨rfl, HH.out, g3⟩
  · have hf : failN M n = n := by unfold failN; rw [if_neg hn]
    rw [hf]
    have H := Lib.hid h
    clear h hf
    go_enter Try.func30, Try.ntmps30
    go_wp2_with fail
    refine (rstate _ _ _ _ _ _ _ _ _ _ H.out).mono ?_
    rintro e w1 ⟨rfl, hb1⟩
    have H1 := Lib.hid (H.out.below hb1)
    have HB1 := Lib.hid hb1
    clear hb1
    have c3 := H1.out.cells.c3
    have c0 := H1.out.cells.c0
    go_wp2_with fail
    go_quiet (fail)
    go_wp2_with fail
    refine name_world2 ?_
    intro w2 hw2
    have H2 : Rt w2 g M F Z n o q b u := by subst hw2; exact H1.out.dN _
    have g2 : w.grownBy w2 (some g) := by subst hw2; exact grown_dN (grown_below HB1.out) _
    clear hw2 c3 c0
    refine (rstate _ _ _ _ _ _ _ _ _ _ H2).mono ?_
    rintro e w3 ⟨rfl, hb3⟩
    have HH := Lib.hid (H2.below hb3)
    have g3 := grown_tr g2 (grown_below hb3)
    clear H2 g2 hb3
    go_wp2
    go_ret
    exact ⟨ret_bool (by simp [chB]), HH.out, g3⟩
set_option maxHeartbeats 2000000 in
theorem rused_t (g : Nat) (M F Z n : Int) (o : Bool) (q b u : Int) (x : Int) (w : World) (h : Rt w g M F Z n o q b u) (hx : inB x 0 1099511627776 = true) : Calls Try.prog 32 #[.pointer (some ⟨g, 0, none⟩), .int .i64 x] w (Chr w g M F Z n o q b (mx u x) (.int .i64 0)) := by
  have c4 := h.cells.c4
  have f4 := h.cells.fr 4
  have H := Lib.hid h
  clear h
  by_cases hu : u ≤ x
  · have hm : mx u x = x := by rw [mx_def, if_pos hu]
    rw [hm]
    clear hm
    go_enter Try.func32, Try.ntmps32
    go_wp2_with fail
    refine (rtime x _).mono ?_
    rw [hx]
    rintro e w' ⟨rfl, rfl⟩
    go_wp2
    go_ret
    exact ⟨rfl, H.out.set4 _, grown_set _ _ _ _⟩
  · have hm : mx u x = u := by rw [mx_def, if_neg hu]
    rw [hm]
    clear hm
    go_enter Try.func32, Try.ntmps32
    go_wp2_with fail
    refine (rtime x _).mono ?_
    rw [hx]
    rintro e w' ⟨rfl, rfl⟩
    go_wp2
    go_ret
    exact ⟨rfl, H.out, grown_refl _ _⟩
set_option maxHeartbeats 2000000 in
theorem rused_f (g : Nat) (M F Z n : Int) (o : Bool) (q b u : Int) (x : Int) (w : World) (h : Rt w g M F Z n o q b u) (hx : inB x 0 1099511627776 = false) : Calls Try.prog 32 #[.pointer (some ⟨g, 0, none⟩), .int .i64 x] w (Chr w g M F Z n o q b u (.int .i64 1)) := by
  have H := Lib.hid h
  clear h
  go_enter Try.func32, Try.ntmps32
  go_wp2_with fail
  refine (rtime x _).mono ?_
  rw [hx]
  rintro e w' ⟨rfl, rfl⟩
  go_wp2
  go_ret
  exact ⟨rfl, H.out, grown_refl _ _⟩
set_option maxHeartbeats 2000000 in
theorem rask_t (g : Nat) (M F Z n : Int) (o : Bool) (q b u : Int) (x : Int) (w : World) (h : Rt w g M F Z n o q b u) (k : Ok M F Z n q b u) (hx : inB x 1 2147483648 = true) : Calls Try.prog 33 #[.pointer (some ⟨g, 0, none⟩), .int .i64 x] w fun e w' => e = .returned (.tuple #[.int .i64 (askV M F Z n u x), .int .i64 0]) ∧ Below w.heap.size w w' := by
  obtain ⟨x0, x1⟩ := inB_t hx
  have c2 := h.cells.c2
  have c4 := h.cells.c4
  have u0 := k.u0
  have u1 := k.u1
  have z0 := k.z0
  have z1 := k.z1
  have H := Lib.hid h
  clear h hx k
  by_cases hs : stV M F n = 2
  · have hb : (stV M F n != 2) = false := by rw [hs]; rfl
    by_cases hd : 1099511627776 < u + x
    · skip
      have hv : askV M F Z n u x = 1099511627776 := by unfold askV; rw [if_pos hs]; rw [mn_def]; (try split) <;> omega
      have HV := Lib.hid hv
      clear hv hs
      go_enter Try.func33, Try.ntmps33
      go_wp2_with fail
      refine (rstate _ _ _ _ _ _ _ _ _ _ H.out).mono ?_
      rintro e w1 ⟨rfl, hb1⟩
      have c2' : w1.cell? ⟨g, 2, none⟩ = some (.int .i64 Z) := (H.out.below hb1).cells.c2
      go_wp2
      go_ret2
      exact ⟨by rw [HV.out]; rfl, hb1⟩
    · skip
      have hv : askV M F Z n u x = u + x := by unfold askV; rw [if_pos hs]; rw [mn_def]; (try split) <;> omega
      have HV := Lib.hid hv
      clear hv hs
      go_enter Try.func33, Try.ntmps33
      go_wp2_with fail
      refine (rstate _ _ _ _ _ _ _ _ _ _ H.out).mono ?_
      rintro e w1 ⟨rfl, hb1⟩
      have c2' : w1.cell? ⟨g, 2, none⟩ = some (.int .i64 Z) := (H.out.below hb1).cells.c2
      go_wp2
      go_ret2
      exact ⟨by rw [HV.out]; rfl, hb1⟩
  · have hb : (stV M F n != 2) = true := by simpa using hs
    by_cases hd : 1099511627776 < u + x + Z
    · skip
      have hv : askV M F Z n u x = 1099511627776 := by unfold askV; rw [if_neg hs]; rw [mn_def]; (try split) <;> omega
      have HV := Lib.hid hv
      clear hv hs
      go_enter Try.func33, Try.ntmps33
      go_wp2_with fail
      refine (rstate _ _ _ _ _ _ _ _ _ _ H.out).mono ?_
      rintro e w1 ⟨rfl, hb1⟩
      have c2' : w1.cell? ⟨g, 2, none⟩ = some (.int .i64 Z) := (H.out.below hb1).cells.c2
      go_wp2
      go_ret2
      exact ⟨by rw [HV.out]; rfl, hb1⟩
    · skip
      have hv : askV M F Z n u x = u + x + Z := by unfold askV; rw [if_neg hs]; rw [mn_def]; (try split) <;> omega
      have HV := Lib.hid hv
      clear hv hs
      go_enter Try.func33, Try.ntmps33
      go_wp2_with fail
      refine (rstate _ _ _ _ _ _ _ _ _ _ H.out).mono ?_
      rintro e w1 ⟨rfl, hb1⟩
      have c2' : w1.cell? ⟨g, 2, none⟩ = some (.int .i64 Z) := (H.out.below hb1).cells.c2
      go_wp2
      go_ret2
      exact ⟨by rw [HV.out]; rfl, hb1⟩
set_option maxHeartbeats 2000000 in
theorem rask_f (g : Nat) (M F Z n : Int) (o : Bool) (q b u : Int) (x : Int) (w : World) (h : Rt w g M F Z n o q b u) (hx : inB x 1 2147483648 = false) : Calls Try.prog 33 #[.pointer (some ⟨g, 0, none⟩), .int .i64 x] w fun e w' => e = .returned (.tuple #[.int .i64 0, .int .i64 1]) ∧ Below w.heap.size w w' := by
  have hx' := inB_f hx
  have H := Lib.hid h
  clear h hx
  by_cases h1 : x < 1
  all_goals
    go_enter Try.func33, Try.ntmps33
    go_wp2
    all_goals first
      | (go_ret2; exact ⟨rfl, (by repeat (first | with_reducible exact Below.refl _ _ | with_reducible assumption | with_reducible refine Below.drew ?_ | with_reducible refine below_dN ?_ _ | with_reducible refine Below.setCell ?_ (by first | omega | (simp; done) | (simp; omega)) _ | with_reducible refine below_al ?_ (by first | omega | (simp; done) | (simp; omega)) _ | exact Below.refl _ _ | assumption | refine Below.drew ?_ | refine below_dN ?_ _ | refine Below.setCell ?_ (by first | omega | (simp; done) | (simp; omega)) _ | refine below_al ?_ (by first | omega | (simp; done) | (simp; omega)) _ | refine below_tr (by assumption) ?_ (by first | omega | (simp; done) | (simp; omega)) | fail))⟩)
      | omega
set_option maxHeartbeats 2000000 in
theorem rbeat_t (g : Nat) (M F Z n : Int) (o : Bool) (q b u : Int) (x : Int) (w : World) (h : Rt w g M F Z n o q b u) (hx : inB x 0 1099511627776 = true) (ho : o = false) (k : Ok M F Z n q b u) : Calls Try.prog 34 #[.pointer (some ⟨g, 0, none⟩), .int .i64 x] w (Chr w g M F Z n true (nxt q) x (mx u x) (.tuple #[.int .u32 (nxt q), .int .i64 0])) := by
  subst ho
  have c5 := h.cells.c5
  have c6 := h.cells.c6
  have c7 := h.cells.c7
  have f5 := h.cells.fr 5
  have f6 := h.cells.fr 6
  have f7 := h.cells.fr 7
  have hw : IntKind.u32.wrap (q + 1) = nxt q := rfl
  have q0 := k.q0
  have q1 := k.q1
  clear k
  have H := Lib.hid h
  clear h
  go_enter Try.func34, Try.ntmps34
  go_wp2_with fail
  refine (rtime x _).mono ?_
  rw [hx]
  rintro e w' ⟨rfl, rfl⟩
  go_wp2_with fail
  refine name_world2 ?_
  intro w2 hw2
  have H2 : Rt w2 g M F Z n true (nxt q) x u := by subst hw2; exact ((H.out.set5 true).set6 (nxt q)).set7 x
  have g2 : w.grownBy w2 (some g) := by subst hw2; exact grown_tr (grown_tr (grown_set _ _ _ _) (grown_set _ _ _ _)) (grown_set _ _ _ _)
  clear hw2 c5 c6 c7 f5 f6 f7
  refine (rused_t g M F Z n true (nxt q) x u x w2 H2 hx).mono ?_
  rintro e w3 ⟨rfl, h3, g3⟩
  have c6 := h3.cells.c6
  have g4 := grown_tr g2 g3
  have H3 := Lib.hid h3
  clear h3 g3 g2 H2
  go_wp2
  go_ret2
  exact ⟨rfl, H3.out, g4⟩
set_option maxHeartbeats 2000000 in
theorem rbeat_o (g : Nat) (M F Z n : Int) (o : Bool) (q b u : Int) (x : Int) (w : World) (h : Rt w g M F Z n o q b u) (hx : inB x 0 1099511627776 = true) (ho : o = true) : Calls Try.prog 34 #[.pointer (some ⟨g, 0, none⟩), .int .i64 x] w (Chr w g M F Z n o q b u (.tuple #[.int .u32 0, .int .i64 111])) := by
  subst ho
  have c5 := h.cells.c5
  have H := Lib.hid h
  clear h
  go_enter Try.func34, Try.ntmps34
  go_wp2_with fail
  refine (rtime x _).mono ?_
  rw [hx]
  rintro e w' ⟨rfl, rfl⟩
  go_wp2
  go_ret2
  exact ⟨rfl, H.out, grown_refl _ _⟩
set_option maxHeartbeats 2000000 in
theorem rbeat_f (g : Nat) (M F Z n : Int) (o : Bool) (q b u : Int) (x : Int) (w : World) (h : Rt w g M F Z n o q b u) (hx : inB x 0 1099511627776 = false) : Calls Try.prog 34 #[.pointer (some ⟨g, 0, none⟩), .int .i64 x] w (Chr w g M F Z n o q b u (.tuple #[.int .u32 0, .int .i64 1])) := by
  have H := Lib.hid h
  clear h
  go_enter Try.func34, Try.ntmps34
  go_wp2_with fail
  refine (rtime x _).mono ?_
  rw [hx]
  rintro e w' ⟨rfl, rfl⟩
  go_wp2
  go_ret2
  exact ⟨rfl, H.out, grown_refl _ _⟩
set_option maxHeartbeats 2000000 in
theorem rheard_f (g : Nat) (M F Z n : Int) (o : Bool) (q b u : Int) (y x : Int) (w : World) (h : Rt w g M F Z n o q b u) (hx : inB x 0 1099511627776 = false) : Calls Try.prog 35 #[.pointer (some ⟨g, 0, none⟩), .int .u32 y, .int .i64 x] w (Chr w g M F Z n o q b u (.tuple #[.int .i64 0, .bool false, .int .i64 1])) := by
  have H := Lib.hid h
  clear h
  go_enter Try.func35, Try.ntmps35
  go_wp2_with fail
  refine (rtime x _).mono ?_
  rw [hx]
  rintro e w' ⟨rfl, rfl⟩
  go_wp2
  go_ret3
  exact ⟨rfl, H.out, grown_refl _ _⟩
set_option maxHeartbeats 2000000 in
theorem rheard_n (g : Nat) (M F Z n : Int) (o : Bool) (q b u : Int) (y x : Int) (w : World) (h : Rt w g M F Z n o q b u) (hx : inB x 0 1099511627776 = true) (ho : o = false) : Calls Try.prog 35 #[.pointer (some ⟨g, 0, none⟩), .int .u32 y, .int .i64 x] w (Chr w g M F Z n o q b u (.tuple #[.int .i64 0, .bool false, .int .i64 111])) := by
  subst ho
  have c5 := h.cells.c5
  have H := Lib.hid h
  clear h
  go_enter Try.func35, Try.ntmps35
  go_wp2_with fail
  refine (rtime x _).mono ?_
  rw [hx]
  rintro e w' ⟨rfl, rfl⟩
  go_wp2
  go_ret3
  exact ⟨rfl, H.out, grown_refl _ _⟩
set_option maxHeartbeats 2000000 in
theorem rheard_q (g : Nat) (M F Z n : Int) (o : Bool) (q b u : Int) (y x : Int) (w : World) (h : Rt w g M F Z n o q b u) (hx : inB x 0 1099511627776 = true) (ho : o = true) (hq : (y != q) = true) : Calls Try.prog 35 #[.pointer (some ⟨g, 0, none⟩), .int .u32 y, .int .i64 x] w (Chr w g M F Z n o q b u (.tuple #[.int .i64 0, .bool false, .int .i64 111])) := by
  subst ho
  have c5 := h.cells.c5
  have c6 := h.cells.c6
  have H := Lib.hid h
  clear h
  go_enter Try.func35, Try.ntmps35
  go_wp2_with fail
  refine (rtime x _).mono ?_
  rw [hx]
  rintro e w' ⟨rfl, rfl⟩
  go_wp2
  go_ret3
  exact ⟨rfl, H.out, grown_refl _ _⟩
set_option maxHeartbeats 2000000 in
theorem rheard_b (g : Nat) (M F Z n : Int) (o : Bool) (q b u : Int) (y x : Int) (w : World) (h : Rt w g M F Z n o q b u) (hx : inB x 0 1099511627776 = true) (ho : o = true) (hq : (y != q) = false) (hb : x < b) : Calls Try.prog 35 #[.pointer (some ⟨g, 0, none⟩), .int .u32 y, .int .i64 x] w (Chr w g M F Z n o q b u (.tuple #[.int .i64 0, .bool false, .int .i64 111])) := by
  subst ho
  have c5 := h.cells.c5
  have c6 := h.cells.c6
  have c7 := h.cells.c7
  have H := Lib.hid h
  clear h
  go_enter Try.func35, Try.ntmps35
  go_wp2_with fail
  refine (rtime x _).mono ?_
  rw [hx]
  rintro e w' ⟨rfl, rfl⟩
  go_wp2
  go_ret3
  exact ⟨rfl, H.out, grown_refl _ _⟩
set_option maxHeartbeats 2000000 in
theorem rheard_t (g : Nat) (M F Z n : Int) (o : Bool) (q b u : Int) (y x : Int) (w : World) (h : Rt w g M F Z n o q b u) (hx : inB x 0 1099511627776 = true) (ho : o = true) (hq : (y != q) = false) (hb : b ≤ x) (k : Ok M F Z n q b u) : Calls Try.prog 35 #[.pointer (some ⟨g, 0, none⟩), .int .u32 y, .int .i64 x] w (Chr w g M F Z 0 false q b u (.tuple #[.int .i64 (x - b), .bool (chB M F n 0), .int .i64 0])) := by
  subst ho
  obtain ⟨x0, x1⟩ := inB_t hx
  have b0 := k.b0
  have hwx : IntKind.i64.wrap (x - b) = x - b := by rw [IntKind.wrap_i64]; omega
  have c5 := h.cells.c5
  have c6 := h.cells.c6
  have c7 := h.cells.c7
  have f5 := h.cells.fr 5
  clear k
  have H := Lib.hid h
  clear h
  go_enter Try.func35, Try.ntmps35
  go_wp2_with fail
  refine (rtime x _).mono ?_
  rw [hx]
  rintro e w' ⟨rfl, rfl⟩
  go_wp2_with fail
  refine name_world ?_
  intro w1 hw1
  have H1 := Lib.hid (show Rt w1 g M F Z n false q b u by subst hw1; exact H.out.set5 false)
  have g1 : w.grownBy w1 (some g) := by subst hw1; exact grown_set _ _ _ _
  have d7 := H1.out.cells.c7
  clear hw1 c5 c6 c7 f5
  go_region_held3 (fun w' => w'.cell? ⟨g, 7, none⟩ = some (.int .i64 b)) (first | exact H1.out.drew.cells.c7 | exact (Rt.cells (by assumption)).c7) (first | (go_at_call 31; refine (rgood _ _ _ _ _ _ _ _ _ _ H1.out.drew).mono ?_; rintro e w2 ⟨rfl, h2, g2⟩))
  go_wp2
  go_ret3
  exact ⟨rfl, ‹Rt _ g M F Z 0 false q b u›, grown_tr (grown_drew g1) ‹World.grownBy (World.drew _) _ (some g)›⟩
set_option maxHeartbeats 2000000 in
theorem rmissed_n (g : Nat) (M F Z n : Int) (o : Bool) (q b u : Int) (w : World) (h : Rt w g M F Z n o q b u) (ho : o = false) : Calls Try.prog 36 #[.pointer (some ⟨g, 0, none⟩)] w (Chr w g M F Z n false q b u (.tuple #[.bool false, .int .i64 111])) := by
  subst ho
  have c5 := h.cells.c5
  have H := Lib.hid h
  clear h
  go_enter Try.func36, Try.ntmps36
  go_wp2
  go_ret2
  exact ⟨rfl, H.out, grown_refl _ _⟩
set_option maxHeartbeats 2000000 in
theorem rmissed_t (g : Nat) (M F Z n : Int) (o : Bool) (q b u : Int) (w : World) (h : Rt w g M F Z n o q b u) (ho : o = true) (k : Ok M F Z n q b u) : Calls Try.prog 36 #[.pointer (some ⟨g, 0, none⟩)] w (Chr w g M F Z (failN M n) false q b u (.tuple #[.bool (chB M F n (failN M n)), .int .i64 0])) := by
  subst ho
  have c5 := h.cells.c5
  have f5 := h.cells.fr 5
  have HK := Lib.hid k
  clear k
  have H := Lib.hid h
  clear h
  go_enter Try.func36, Try.ntmps36
  go_wp2_with fail
  refine name_world2 ?_
  intro w1 hw1
  have H1 : Rt w1 g M F Z n false q b u := by subst hw1; exact H.out.set5 false
  have g1 : w.grownBy w1 (some g) := by subst hw1; exact grown_set _ _ _ _
  clear hw1 c5 f5
  refine (rfail g M F Z n false q b u w1 H1 HK.out).mono ?_
  rintro e w2 ⟨rfl, h2, g2⟩
  have g3 := grown_tr g1 g2
  have H2 := Lib.hid h2
  clear h2 g2 g1 H1
  go_wp2
  go_ret2
  exact ⟨rfl, H2.out, g3⟩
