/- Contracts of layer 11: a path's own calls. -/
import Derived.Test.YtncmklpnppenmaaC
namespace Go.Proofs.Ytncmklpnppenmaa.C
open Go.RowKit
set_option linter.unusedVariables false
set_option linter.unusedSimpArgs false
attribute [local go_sem high] max2_mx min2_mn max_two min_two
attribute [local go_sem ↓] Go.wp_at_zero Go.wp_at_succ

/-- what may be of a path -/
structure Ok (M F Z n q b u : Int) : Prop where
  f0 : 0 ≤ F
  f1 : F ≤ M
  m1 : M ≤ 100
  z0 : 1 ≤ Z
  z1 : Z ≤ 2147483648
  n0 : 0 ≤ n
  n1 : n ≤ M + 1
  q0 : 0 ≤ q
  q1 : q ≤ 4294967295
  b0 : 0 ≤ b
  b1 : b ≤ 1099511627776
  u0 : 0 ≤ u
  u1 : u ≤ 1099511627776
/-- one error more -/
def failN (M n : Int) : Int := if n ≤ M then n + 1 else n
theorem failN_mn (M n : Int) (h : n ≤ M + 1) : mn (n + 1) (M + 1) = failN M n := by unfold failN; rw [mn_def]; split <;> split <;> omega
/-- is the state another one? -/
def chB (M F n n' : Int) : Bool := stV M F n' != stV M F n
set_option maxHeartbeats 2000000 in
theorem pfail (g : Nat) (M F Z n : Int) (o : Bool) (q b u : Int) (w : World) (h : Pt w g M F Z n o q b u) (k : Ok M F Z n q b u) : Calls Try.prog 9 #[.pointer (some ⟨g, 0, none⟩)] w (Chg w g M F Z (failN M n) o q b u (.tuple #[.bool (chB M F n (failN M n)), .int .i64 0])) := by
  have c3 := h.cells.c3
  have n0 := k.n0
  have n1 := k.n1
  have m1 := k.m1
  have m0 : 0 ≤ M := Int.le_trans k.f0 k.f1
  have ht := fun W (hW : Pt W g M F Z n o q b u) => turn g M F Z n o q b u (n + 1) W hW m0 m1
  rw [failN_mn M n n1] at ht
  have HT := Lib.hid ht
  clear ht
  have H := Lib.hid h
  clear h k
  go_enter Try.func9, Try.ntmps9
  go_wp2_with fail
  refine (pok _ _ _ _ _ _ _ _ _ _ H.out).mono ?_
  rintro e w' ⟨rfl, rfl⟩
  go_wp2_with fail
  go_still_tail 9, (by kernel_rfl)
  go_wp2_with fail
  refine (HT.out _ H.out.drew).mono ?_
  rintro e w1 ⟨rfl, h1, g1⟩
  go_wp2
  go_ret2
  exact ⟨rfl, h1, grown_tr (grown_drew (grown_refl w _)) g1⟩
set_option maxHeartbeats 2000000 in
theorem pgood (g : Nat) (M F Z n : Int) (o : Bool) (q b u : Int) (w : World) (h : Pt w g M F Z n o q b u) (k : Ok M F Z n q b u) : Calls Try.prog 11 #[.pointer (some ⟨g, 0, none⟩)] w (Chg w g M F Z 0 o q b u (.tuple #[.bool (chB M F n 0), .int .i64 0])) := by
  have m1 := k.m1
  have m0 : 0 ≤ M := Int.le_trans k.f0 k.f1
  have e0 : mn 0 (M + 1) = 0 := by rw [mn_def, if_pos (by omega)]
  have ht := fun W (hW : Pt W g M F Z n o q b u) => turn g M F Z n o q b u 0 W hW m0 m1
  rw [e0] at ht
  have HT := Lib.hid ht
  clear ht e0
  have H := Lib.hid h
  clear h k
  go_enter Try.func11, Try.ntmps11
  go_wp2_with fail
  refine (pok _ _ _ _ _ _ _ _ _ _ H.out).mono ?_
  rintro e w' ⟨rfl, rfl⟩
  go_wp2_with fail
  refine (HT.out _ H.out).mono ?_
  rintro e w1 ⟨rfl, h1, g1⟩
  go_wp2
  go_ret2
  exact ⟨rfl, h1, g1⟩
set_option maxHeartbeats 2000000 in
theorem pstate (g : Nat) (M F Z n : Int) (o : Bool) (q b u : Int) (w : World) (h : Pt w g M F Z n o q b u)  : Calls Try.prog 10 #[.pointer (some ⟨g, 0, none⟩)] w fun e w' => e = .returned (.int .i64 (stV M F n)) ∧ Below w.heap.size w w' := by
  have H := Lib.hid h
  clear h
  go_enter Try.func10, Try.ntmps10
  go_wp2_with fail
  refine (pok _ _ _ _ _ _ _ _ _ _ H.out).mono ?_
  rintro e w' ⟨rfl, rfl⟩
  go_wp2_with fail
  refine (state _ _ _ _ _ _ _ _ _ _ H.out).mono ?_
  rintro e w1 ⟨rfl, hb1⟩
  go_wp2
  go_ret
  exact ⟨rfl, hb1⟩
set_option maxHeartbeats 2000000 in
theorem perrors (g : Nat) (M F Z n : Int) (o : Bool) (q b u : Int) (w : World) (h : Pt w g M F Z n o q b u)  : Calls Try.prog 12 #[.pointer (some ⟨g, 0, none⟩)] w fun e w' => e = .returned (.int .i64 n) ∧ w = w' := by
  have c3 := h.cells.c3
  have H := Lib.hid h
  clear h
  go_enter Try.func12, Try.ntmps12
  go_wp2_with fail
  refine (pok _ _ _ _ _ _ _ _ _ _ H.out).mono ?_
  rintro e w' ⟨rfl, rfl⟩
  go_wp2
  go_ret
  exact ⟨rfl, rfl⟩
set_option maxHeartbeats 2000000 in
theorem pused_t (g : Nat) (M F Z n : Int) (o : Bool) (q b u : Int) (x : Int) (w : World) (h : Pt w g M F Z n o q b u) (hx : inB x 0 1099511627776 = true) : Calls Try.prog 21 #[.pointer (some ⟨g, 0, none⟩), .int .i64 x] w (Chg w g M F Z n o q b (mx u x) (.int .i64 0)) := by
  have c8 := h.cells.c8
  have f8 := h.cells.fr 8
  have H := Lib.hid h
  clear h
  go_enter Try.func21, Try.ntmps21
  go_wp2_with fail
  refine (timed x 0 g M F Z n o q b u _ H.out).mono ?_
  rw [hx]
  rintro e w' ⟨rfl, rfl⟩
  go_wp2
  go_ret
  exact ⟨rfl, H.out.set8 _, grown_set _ _ _ _⟩
set_option maxHeartbeats 2000000 in
theorem pused_f (g : Nat) (M F Z n : Int) (o : Bool) (q b u : Int) (x : Int) (w : World) (h : Pt w g M F Z n o q b u) (hx : inB x 0 1099511627776 = false) : Calls Try.prog 21 #[.pointer (some ⟨g, 0, none⟩), .int .i64 x] w (Chg w g M F Z n o q b u (.int .i64 1)) := by
  have H := Lib.hid h
  clear h
  go_enter Try.func21, Try.ntmps21
  go_wp2_with fail
  refine (timed x 0 g M F Z n o q b u _ H.out).mono ?_
  rw [hx]
  rintro e w' ⟨rfl, rfl⟩
  go_wp2
  go_ret
  exact ⟨rfl, H.out, grown_refl _ _⟩
/-- when the next heartbeat is due -/
def askV (M F Z n u x : Int) : Int := mn (if stV M F n = 2 then u + x else u + x + Z) 1099511627776
set_option maxHeartbeats 2000000 in
theorem pask_t (g : Nat) (M F Z n : Int) (o : Bool) (q b u : Int) (x : Int) (w : World) (h : Pt w g M F Z n o q b u) (k : Ok M F Z n q b u) (hx : inB x 1 2147483648 = true) : Calls Try.prog 18 #[.pointer (some ⟨g, 0, none⟩), .int .i64 x] w fun e w' => e = .returned (.tuple #[.int .i64 (askV M F Z n u x), .int .i64 0]) ∧ Below w.heap.size w w' := by
  obtain ⟨x0, x1⟩ := inB_t hx
  have c2 := h.cells.c2
  have c8 := h.cells.c8
  have u0 := k.u0
  have u1 := k.u1
  have z0 := k.z0
  have z1 := k.z1
  have H := Lib.hid h
  clear h hx k
  by_cases hs : stV M F n = 2
  · have hb : (stV M F n != 2) = false := by rw [hs]; rfl
    have hv : askV M F Z n u x = mn (u + x) 1099511627776 := by unfold askV; rw [if_pos hs]
    have HV := Lib.hid hv
    clear hs hv
    go_enter Try.func18, Try.ntmps18
    go_wp2_with fail
    refine (pok _ _ _ _ _ _ _ _ _ _ H.out).mono ?_
    rintro e w' ⟨rfl, rfl⟩
    go_wp2_with fail
    refine (state _ _ _ _ _ _ _ _ _ _ H.out).mono ?_
    rintro e w1 ⟨rfl, hb1⟩
    go_wp2
    go_ret2
    exact ⟨by rw [HV.out]; rfl, hb1⟩
  · have hb : (stV M F n != 2) = true := by simpa using hs
    have hv : askV M F Z n u x = mn (u + x + Z) 1099511627776 := by unfold askV; rw [if_neg hs]
    have HV := Lib.hid hv
    clear hs hv
    go_enter Try.func18, Try.ntmps18
    go_wp2_with fail
    refine (pok _ _ _ _ _ _ _ _ _ _ H.out).mono ?_
    rintro e w' ⟨rfl, rfl⟩
    go_wp2_with fail
    refine (state _ _ _ _ _ _ _ _ _ _ H.out).mono ?_
    rintro e w1 ⟨rfl, hb1⟩
    have c2' : w1.cell? ⟨g, 2, none⟩ = some (.int .i64 Z) := (H.out.below hb1).cells.c2
    go_wp2
    go_ret2
    exact ⟨by rw [HV.out]; rfl, hb1⟩
set_option maxHeartbeats 2000000 in
theorem pask_f (g : Nat) (M F Z n : Int) (o : Bool) (q b u : Int) (x : Int) (w : World) (h : Pt w g M F Z n o q b u) (hx : inB x 1 2147483648 = false) : Calls Try.prog 18 #[.pointer (some ⟨g, 0, none⟩), .int .i64 x] w fun e w' => e = .returned (.tuple #[.int .i64 0, .int .i64 1]) ∧ Below w.heap.size w w' := by
  have hx' := inB_f hx
  have H := Lib.hid h
  clear h hx
  by_cases h1 : x < 1
  all_goals
    go_enter Try.func18, Try.ntmps18
    go_wp2_with fail
    refine (pok _ _ _ _ _ _ _ _ _ _ H.out).mono ?_
    rintro e w' ⟨rfl, rfl⟩
    go_wp2
    all_goals first
      | (go_ret2; exact ⟨rfl, (by repeat (first | with_reducible exact Below.refl _ _ | with_reducible assumption | with_reducible refine Below.drew ?_ | with_reducible refine below_dN ?_ _ | with_reducible refine Below.setCell ?_ (by first | omega | (simp; done) | (simp; omega)) _ | with_reducible refine below_al ?_ (by first | omega | (simp; done) | (simp; omega)) _ | exact Below.refl _ _ | assumption | refine Below.drew ?_ | refine below_dN ?_ _ | refine Below.setCell ?_ (by first | omega | (simp; done) | (simp; omega)) _ | refine below_al ?_ (by first | omega | (simp; done) | (simp; omega)) _ | refine below_tr (by assumption) ?_ (by first | omega | (simp; done) | (simp; omega)) | fail))⟩)
      | omega
/-- the next number -/
def nxt (q : Int) : Int := IntKind.u32.wrap (q + 1)
set_option maxHeartbeats 2000000 in
theorem pbeat_t (g : Nat) (M F Z n : Int) (o : Bool) (q b u : Int) (x : Int) (w : World) (h : Pt w g M F Z n o q b u) (hx : inB x 0 1099511627776 = true) (ho : o = false) (k : Ok M F Z n q b u) : Calls Try.prog 13 #[.pointer (some ⟨g, 0, none⟩), .int .i64 x] w (Chg w g M F Z n true (nxt q) x (mx u x) (.tuple #[.int .u32 (nxt q), .int .i64 0])) := by
  subst ho
  have c4 := h.cells.c4
  have c5 := h.cells.c5
  have c6 := h.cells.c6
  have c8 := h.cells.c8
  have f4 := h.cells.fr 4
  have f5 := h.cells.fr 5
  have f6 := h.cells.fr 6
  have f8 := h.cells.fr 8
  have hw : IntKind.u32.wrap (q + 1) = nxt q := rfl
  have q0 := k.q0
  have q1 := k.q1
  clear k
  have H := Lib.hid h
  clear h
  go_enter Try.func13, Try.ntmps13
  go_wp2_with fail
  refine (timed x 0 g M F Z n false q b u _ H.out).mono ?_
  rw [hx]
  rintro e w' ⟨rfl, rfl⟩
  go_wp2
  go_ret2
  exact ⟨rfl, (((H.out.set4 true).set5 (nxt q)).set6 x).set8 (mx u x), grown_tr (grown_tr (grown_tr (grown_set _ _ _ _) (grown_set _ _ _ _)) (grown_set _ _ _ _)) (grown_set _ _ _ _)⟩
set_option maxHeartbeats 2000000 in
theorem pbeat_o (g : Nat) (M F Z n : Int) (o : Bool) (q b u : Int) (x : Int) (w : World) (h : Pt w g M F Z n o q b u) (hx : inB x 0 1099511627776 = true) (ho : o = true) : Calls Try.prog 13 #[.pointer (some ⟨g, 0, none⟩), .int .i64 x] w (Chg w g M F Z n o q b u (.tuple #[.int .u32 0, .int .i64 111])) := by
  subst ho
  have c4 := h.cells.c4
  have H := Lib.hid h
  clear h
  go_enter Try.func13, Try.ntmps13
  go_wp2_with fail
  refine (timed x 0 g M F Z n true q b u _ H.out).mono ?_
  rw [hx]
  rintro e w' ⟨rfl, rfl⟩
  go_wp2
  go_ret2
  exact ⟨rfl, H.out, grown_refl _ _⟩
set_option maxHeartbeats 2000000 in
theorem pbeat_f (g : Nat) (M F Z n : Int) (o : Bool) (q b u : Int) (x : Int) (w : World) (h : Pt w g M F Z n o q b u) (hx : inB x 0 1099511627776 = false) : Calls Try.prog 13 #[.pointer (some ⟨g, 0, none⟩), .int .i64 x] w (Chg w g M F Z n o q b u (.tuple #[.int .u32 0, .int .i64 1])) := by
  have H := Lib.hid h
  clear h
  go_enter Try.func13, Try.ntmps13
  go_wp2_with fail
  refine (timed x 0 g M F Z n o q b u _ H.out).mono ?_
  rw [hx]
  rintro e w' ⟨rfl, rfl⟩
  go_wp2
  go_ret2
  exact ⟨rfl, H.out, grown_refl _ _⟩
