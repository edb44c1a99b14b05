/- Contracts of layer 11: the other calls of a path; alive. -/
import Derived.Test.YtncmklpnppenmaaD
namespace Go.Proofs.Ytncmklpnppenmaa.C
open Go.RowKit
set_option linter.unusedVariables false
set_option linter.unusedSimpArgs false
attribute [local go_sem high] max2_mx min2_mn max_two min_two
attribute [local go_sem ↓] Go.wp_at_zero Go.wp_at_succ

set_option maxHeartbeats 2000000 in
theorem pheard_f (g : Nat) (M F Z n : Int) (o : Bool) (q b u : Int) (y x : Int) (w : World) (h : Pt w g M F Z n o q b u) (hx : inB x 0 1099511627776 = false) : Calls Try.prog 14 #[.pointer (some ⟨g, 0, none⟩), .int .u32 y, .int .i64 x] w (Chg w g M F Z n o q b u (.tuple #[.int .i64 0, .bool false, .int .i64 1])) := by
  have H := Lib.hid h
  clear h
  go_enter Try.func14, Try.ntmps14
  go_wp2_with fail
  refine (timed x 0 g M F Z n o q b u _ H.out).mono ?_
  rw [hx]
  rintro e w' ⟨rfl, rfl⟩
  go_wp2
  go_ret3
  exact ⟨rfl, H.out, grown_refl _ _⟩
set_option maxHeartbeats 2000000 in
theorem pheard_n (g : Nat) (M F Z n : Int) (o : Bool) (q b u : Int) (y x : Int) (w : World) (h : Pt w g M F Z n o q b u) (hx : inB x 0 1099511627776 = true) (ho : o = false) : Calls Try.prog 14 #[.pointer (some ⟨g, 0, none⟩), .int .u32 y, .int .i64 x] w (Chg w g M F Z n o q b u (.tuple #[.int .i64 0, .bool false, .int .i64 111])) := by
  subst ho
  have c4 := h.cells.c4
  have H := Lib.hid h
  clear h
  go_enter Try.func14, Try.ntmps14
  go_wp2_with fail
  refine (timed x 0 g M F Z n false q b u _ H.out).mono ?_
  rw [hx]
  rintro e w' ⟨rfl, rfl⟩
  go_wp2
  go_ret3
  exact ⟨rfl, H.out, grown_refl _ _⟩
set_option maxHeartbeats 2000000 in
theorem pheard_q (g : Nat) (M F Z n : Int) (o : Bool) (q b u : Int) (y x : Int) (w : World) (h : Pt w g M F Z n o q b u) (hx : inB x 0 1099511627776 = true) (ho : o = true) (hq : (q != y) = true) : Calls Try.prog 14 #[.pointer (some ⟨g, 0, none⟩), .int .u32 y, .int .i64 x] w (Chg w g M F Z n o q b u (.tuple #[.int .i64 0, .bool false, .int .i64 111])) := by
  subst ho
  have c4 := h.cells.c4
  have c5 := h.cells.c5
  have H := Lib.hid h
  clear h
  go_enter Try.func14, Try.ntmps14
  go_wp2_with fail
  refine (timed x 0 g M F Z n true q b u _ H.out).mono ?_
  rw [hx]
  rintro e w' ⟨rfl, rfl⟩
  go_wp2
  go_ret3
  exact ⟨rfl, H.out, grown_refl _ _⟩
set_option maxHeartbeats 2000000 in
theorem pheard_b (g : Nat) (M F Z n : Int) (o : Bool) (q b u : Int) (y x : Int) (w : World) (h : Pt w g M F Z n o q b u) (hx : inB x 0 1099511627776 = true) (ho : o = true) (hq : (q != y) = false) (hb : x < b) : Calls Try.prog 14 #[.pointer (some ⟨g, 0, none⟩), .int .u32 y, .int .i64 x] w (Chg w g M F Z n o q b u (.tuple #[.int .i64 0, .bool false, .int .i64 111])) := by
  subst ho
  have c4 := h.cells.c4
  have c5 := h.cells.c5
  have c6 := h.cells.c6
  have H := Lib.hid h
  clear h
  go_enter Try.func14, Try.ntmps14
  go_wp2_with fail
  refine (timed x 0 g M F Z n true q b u _ H.out).mono ?_
  rw [hx]
  rintro e w' ⟨rfl, rfl⟩
  go_wp2
  go_ret3
  exact ⟨rfl, H.out, grown_refl _ _⟩
set_option maxHeartbeats 2000000 in
theorem pheard_t (g : Nat) (M F Z n : Int) (o : Bool) (q b u : Int) (y x : Int) (w : World) (h : Pt w g M F Z n o q b u) (hx : inB x 0 1099511627776 = true) (ho : o = true) (hq : (q != y) = false) (hb : b ≤ x) (k : Ok M F Z n q b u) : Calls Try.prog 14 #[.pointer (some ⟨g, 0, none⟩), .int .u32 y, .int .i64 x] w (Chg w g M F Z 0 false q b u (.tuple #[.int .i64 (x - b), .bool (chB M F n 0), .int .i64 0])) := by
  subst ho
  obtain ⟨x0, x1⟩ := inB_t hx
  have b0 := k.b0
  have hwx : IntKind.i64.wrap (x - b) = x - b := by rw [IntKind.wrap_i64]; omega
  have m1 := k.m1
  have m0 : 0 ≤ M := Int.le_trans k.f0 k.f1
  have e0 : mn 0 (M + 1) = 0 := by rw [mn_def, if_pos (by omega)]
  have ht := fun W (hW : Pt W g M F Z n false q b u) => turn g M F Z n false q b u 0 W hW m0 m1
  rw [e0] at ht
  have HT := Lib.hid ht
  clear ht e0
  have c4 := h.cells.c4
  have c5 := h.cells.c5
  have c6 := h.cells.c6
  clear k
  have H := Lib.hid h
  clear h
  go_enter Try.func14, Try.ntmps14
  go_wp2_with fail
  refine (timed x 0 g M F Z n true q b u _ H.out).mono ?_
  rw [hx]
  rintro e w' ⟨rfl, rfl⟩
  go_wp2_with fail
  refine (close g M F Z n true q b u _ H.out).mono ?_
  rintro e w1 ⟨rfl, h1, g1⟩
  have H1 := Lib.hid h1
  have d6 := H1.out.cells.c6
  clear h1 c4 c5 c6
  go_wp2_with fail
  go_region_held3 (fun w' => w'.cell? ⟨g, 6, none⟩ = some (.int .i64 b)) (first | exact H1.out.drew.cells.c6 | exact (Pt.cells (by assumption)).c6) (first | (go_at_call 24; refine (HT.out _ H1.out.drew).mono ?_; rintro e w2 ⟨rfl, h2, g2⟩))
  go_wp2
  go_ret3
  exact ⟨rfl, ‹Pt _ g M F Z 0 false q b u›, grown_tr (grown_drew g1) ‹World.grownBy (World.drew _) _ (some g)›⟩
set_option maxHeartbeats 2000000 in
theorem pmissed_n (g : Nat) (M F Z n : Int) (o : Bool) (q b u : Int) (w : World) (h : Pt w g M F Z n o q b u) (ho : o = false) : Calls Try.prog 19 #[.pointer (some ⟨g, 0, none⟩)] w (Chg w g M F Z n false q b u (.tuple #[.bool false, .int .i64 111])) := by
  subst ho
  have H := Lib.hid h
  clear h
  go_enter Try.func19, Try.ntmps19
  go_wp2_with fail
  refine (pok _ _ _ _ _ _ _ _ _ _ H.out).mono ?_
  rintro e w' ⟨rfl, rfl⟩
  go_wp2_with fail
  refine (close g M F Z n false q b u _ H.out).mono ?_
  rintro e w1 ⟨rfl, h1, g1⟩
  go_wp2
  go_ret2
  exact ⟨rfl, h1, g1⟩
set_option maxHeartbeats 2000000 in
theorem pmissed_t (g : Nat) (M F Z n : Int) (o : Bool) (q b u : Int) (w : World) (h : Pt w g M F Z n o q b u) (ho : o = true) (k : Ok M F Z n q b u) : Calls Try.prog 19 #[.pointer (some ⟨g, 0, none⟩)] w (Chg w g M F Z (failN M n) false q b u (.tuple #[.bool (chB M F n (failN M n)), .int .i64 0])) := by
  subst ho
  have n0 := k.n0
  have n1 := k.n1
  have m1 := k.m1
  have m0 : 0 ≤ M := Int.le_trans k.f0 k.f1
  have ht := fun W (hW : Pt W g M F Z n false q b u) => turn g M F Z n false q b u (n + 1) W hW m0 m1
  rw [failN_mn M n n1] at ht
  have HT := Lib.hid ht
  clear ht
  clear k
  have H := Lib.hid h
  clear h
  go_enter Try.func19, Try.ntmps19
  go_wp2_with fail
  refine (pok _ _ _ _ _ _ _ _ _ _ H.out).mono ?_
  rintro e w' ⟨rfl, rfl⟩
  go_wp2_with fail
  refine (close g M F Z n true q b u _ H.out).mono ?_
  rintro e w1 ⟨rfl, h1, g1⟩
  have H1 := Lib.hid h1
  have d3 := H1.out.cells.c3
  clear h1
  go_wp2_with fail
  go_still_tail 9, (by kernel_rfl)
  go_wp2_with fail
  refine (HT.out _ H1.out.drew).mono ?_
  rintro e w2 ⟨rfl, h2, g2⟩
  go_wp2
  go_ret2
  exact ⟨rfl, h2, grown_tr (grown_drew g1) g2⟩
set_option maxHeartbeats 2000000 in
theorem popen_n (g : Nat) (M F Z n : Int) (o : Bool) (q b u : Int) (w : World) (h : Pt w g M F Z n o q b u) (ho : o = false) : Calls Try.prog 20 #[.pointer (some ⟨g, 0, none⟩)] w fun e w' => e = .returned (.tuple #[.int .u32 0, .int .i64 0, .bool false]) ∧ Below w.heap.size w w' := by
  subst ho
  have c4 := h.cells.c4
  have H := Lib.hid h
  clear h
  go_enter Try.func20, Try.ntmps20
  go_wp2_with fail
  refine (pok _ _ _ _ _ _ _ _ _ _ H.out).mono ?_
  rintro e w' ⟨rfl, rfl⟩
  go_wp2
  go_ret3
  exact ⟨rfl, Below.refl _ _⟩
set_option maxHeartbeats 2000000 in
theorem popen_t (g : Nat) (M F Z n : Int) (o : Bool) (q b u : Int) (w : World) (h : Pt w g M F Z n o q b u) (ho : o = true) : Calls Try.prog 20 #[.pointer (some ⟨g, 0, none⟩)] w fun e w' => e = .returned (.tuple #[.int .u32 q, .int .i64 b, .bool true]) ∧ Below w.heap.size w w' := by
  subst ho
  have c4 := h.cells.c4
  have c5 := h.cells.c5
  have c6 := h.cells.c6
  have H := Lib.hid h
  clear h
  go_enter Try.func20, Try.ntmps20
  go_wp2_with fail
  refine (pok _ _ _ _ _ _ _ _ _ _ H.out).mono ?_
  rintro e w' ⟨rfl, rfl⟩
  go_wp2_with fail
  go_quiet (fail)
  go_wp2
  go_ret3
  exact ⟨rfl, (by repeat (first | with_reducible exact Below.refl _ _ | with_reducible assumption | with_reducible refine Below.drew ?_ | with_reducible refine below_dN ?_ _ | with_reducible refine Below.setCell ?_ (by first | omega | (simp; done) | (simp; omega)) _ | with_reducible refine below_al ?_ (by first | omega | (simp; done) | (simp; omega)) _ | exact Below.refl _ _ | assumption | refine Below.drew ?_ | refine below_dN ?_ _ | refine Below.setCell ?_ (by first | omega | (simp; done) | (simp; omega)) _ | refine below_al ?_ (by first | omega | (simp; done) | (simp; omega)) _ | refine below_tr (by assumption) ?_ (by first | omega | (simp; done) | (simp; omega)) | fail))⟩
/-- may a care be? -/
def careB (M F Z : Int) : Bool := decide ((0 ≤ F ∧ F ≤ M) ∧ M ≤ 100 ∧ 1 ≤ Z ∧ Z ≤ 2147483648)
/-- a path is made in a block of its own -/
def Made (M F Z x : Int) (w : World) (e : Ending) (w' : World) : Prop := ∃ g, e = .returned (.tuple #[.pointer (some ⟨g, 0, none⟩), .int .i64 0]) ∧ Pt w' g M F Z 0 false 0 0 x ∧ w.heap.size ≤ g ∧ Below w.heap.size w w'
set_option maxHeartbeats 2000000 in
theorem new_t (M F Z x : Int) (w : World) (hc : careB M F Z = true) (hx : inB x 0 1099511627776 = true) : Calls Try.prog 7 #[.agg #[.int .i64 M, .int .i64 F, .int .i64 Z], .int .i64 x] w (Made M F Z x w) := by
  have hu23 := Try.underlying23
  obtain ⟨⟨f0, f1⟩, m1, z0, z1⟩ := of_decide_eq_true hc
  clear hc
  go_enter Try.func7, Try.ntmps7
  go_wp2_with fail
  refine (isTime _ _).mono ?_
  rw [hx]
  rintro e w' ⟨rfl, rfl⟩
  go_wp2
  go_ret2
  refine ⟨w.heap.size + 1, rfl, ?_, by omega, (by repeat (first | with_reducible exact Below.refl _ _ | with_reducible assumption | with_reducible refine Below.drew ?_ | with_reducible refine below_dN ?_ _ | with_reducible refine Below.setCell ?_ (by first | omega | (simp; done) | (simp; omega)) _ | with_reducible refine below_al ?_ (by first | omega | (simp; done) | (simp; omega)) _ | exact Below.refl _ _ | assumption | refine Below.drew ?_ | refine below_dN ?_ _ | refine Below.setCell ?_ (by first | omega | (simp; done) | (simp; omega)) _ | refine below_al ?_ (by first | omega | (simp; done) | (simp; omega)) _ | refine below_tr (by assumption) ?_ (by first | omega | (simp; done) | (simp; omega)) | fail))⟩
  have h := heap_alloc_new (w.alloc (.cells #[.int .i64 M, .int .i64 F, .int .i64 Z] 23)) (.cells #[.int .i64 M, .int .i64 F, .int .i64 Z, .int .i64 0, .bool false, .int .u32 0, .int .i64 0, .bool true, .int .i64 x] 56)
  have e : (w.alloc (.cells #[.int .i64 M, .int .i64 F, .int .i64 Z] 23)).heap.size = w.heap.size + 1 := by simp
  rw [e] at h
  exact h
set_option maxHeartbeats 2000000 in
theorem new_x (M F Z x : Int) (w : World) (hc : careB M F Z = true) (hx : inB x 0 1099511627776 = false) : Calls Try.prog 7 #[.agg #[.int .i64 M, .int .i64 F, .int .i64 Z], .int .i64 x] w fun e w' => e = .returned (.tuple #[.pointer none, .int .i64 1]) ∧ Below w.heap.size w w' := by
  have hu23 := Try.underlying23
  obtain ⟨⟨f0, f1⟩, m1, z0, z1⟩ := of_decide_eq_true hc
  clear hc
  go_enter Try.func7, Try.ntmps7
  go_wp2_with fail
  refine (isTime _ _).mono ?_
  rw [hx]
  rintro e w' ⟨rfl, rfl⟩
  go_wp2
  go_ret2
  exact ⟨rfl, (by repeat (first | with_reducible exact Below.refl _ _ | with_reducible assumption | with_reducible refine Below.drew ?_ | with_reducible refine below_dN ?_ _ | with_reducible refine Below.setCell ?_ (by first | omega | (simp; done) | (simp; omega)) _ | with_reducible refine below_al ?_ (by first | omega | (simp; done) | (simp; omega)) _ | exact Below.refl _ _ | assumption | refine Below.drew ?_ | refine below_dN ?_ _ | refine Below.setCell ?_ (by first | omega | (simp; done) | (simp; omega)) _ | refine below_al ?_ (by first | omega | (simp; done) | (simp; omega)) _ | refine below_tr (by assumption) ?_ (by first | omega | (simp; done) | (simp; omega)) | fail))⟩
set_option maxHeartbeats 4000000 in
theorem new_c (M F Z x : Int) (w : World) (hc : careB M F Z = false) : Calls Try.prog 7 #[.agg #[.int .i64 M, .int .i64 F, .int .i64 Z], .int .i64 x] w fun e w' => e = .returned (.tuple #[.pointer none, .int .i64 110]) ∧ Below w.heap.size w w' := by
  have hu23 := Try.underlying23
  have hc' := of_decide_eq_false hc
  clear hc
  go_enter Try.func7, Try.ntmps7
  go_wp2_with fail
  all_goals first
    | (go_ret2; exact ⟨rfl, (by repeat (first | with_reducible exact Below.refl _ _ | with_reducible assumption | with_reducible refine Below.drew ?_ | with_reducible refine below_dN ?_ _ | with_reducible refine Below.setCell ?_ (by first | omega | (simp; done) | (simp; omega)) _ | with_reducible refine below_al ?_ (by first | omega | (simp; done) | (simp; omega)) _ | exact Below.refl _ _ | assumption | refine Below.drew ?_ | refine below_dN ?_ _ | refine Below.setCell ?_ (by first | omega | (simp; done) | (simp; omega)) _ | refine below_al ?_ (by first | omega | (simp; done) | (simp; omega)) _ | refine below_tr (by assumption) ?_ (by first | omega | (simp; done) | (simp; omega)) | fail))⟩)
    | omega
theorem below_grown {B g : Nat} {W w w' : World} (hb : Below B W w) (hB : B ≤ w.heap.size) (hg : B ≤ g) (h : w.grownBy w' (some g)) : Below B W w' :=
  hb.grown h hB fun k hk => by
    have : g = k := by simpa using hk
    omega
set_option maxHeartbeats 2000000 in
theorem alive (w : World) : Calls Try.prog 8 #[] w fun e w' => e = .returned (.bool true) ∧ Below w.heap.size w w' := by
  have hu23 := Try.underlying23
  go_enter Try.func8, Try.ntmps8
  go_wp2_with fail
  refine (new_t 2 0 30000 100 _ (by decide) (by decide)).mono ?_
  rintro e w1 ⟨g, rfl, h1, hg, hb1⟩
  have hk : Ok 2 0 30000 0 0 0 100 := by constructor <;> omega
  have ha := pask_t g 2 0 30000 0 false 0 0 100 1000 w1 h1 hk (by decide)
  rw [show askV 2 0 30000 0 100 1000 = 31100 from by decide] at ha
  go_wp2_with fail
  refine ha.mono ?_
  rintro e w2 ⟨rfl, hb2⟩
  have h2 := h1.below hb2
  have hf := pfail g 2 0 30000 0 false 0 0 100 w2 h2 hk
  rw [show failN 2 0 = 1 from by decide, show chB 2 0 0 1 = true from by decide] at hf
  clear ha
  go_wp2_with fail
  refine hf.mono ?_
  rintro e w3 ⟨rfl, h3, g3⟩
  have hB2 : Below w.heap.size w w2 := below_tr hb2 hb1 (Nat.le_refl _)
  have hB3 : Below w.heap.size w w3 := below_grown hB2 hB2.size hg g3
  have hs := pstate g 2 0 30000 1 false 0 0 100 w3 h3
  rw [show stV 2 0 1 = 2 from by decide] at hs
  clear hf
  go_wp2_with fail
  refine hs.mono ?_
  rintro e w4 ⟨rfl, hb4⟩
  have h4 := h3.below hb4
  clear hs
  go_wp2_with fail
  refine (perrors g 2 0 30000 1 false 0 0 100 w4 h4).mono ?_
  rintro e w5 ⟨rfl, rfl⟩
  have HB := Lib.hid (below_tr hb4 hB3 (Nat.le_refl _))
  go_wp2
  go_ret
  exact ⟨rfl, HB.out⟩
