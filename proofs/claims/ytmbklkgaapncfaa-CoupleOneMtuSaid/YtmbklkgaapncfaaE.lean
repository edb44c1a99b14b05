/- Contracts of layer 13's functions: what is asked of a path. -/
import Derived.Test.YtmbklkgaapncfaaD
namespace Go.Proofs.Ytmbklkgaapncfaa.C
open Go.RowKit OpenStruct
set_option linter.unusedVariables false
set_option linter.unusedSimpArgs false
attribute [local go_sem high] max2_mx min2_mn max_two min_two
attribute [local go_sem ↓] Go.wp_at_zero Go.wp_at_succ
theorem inB_0 : inB 0 0 1073741824 = true := by decide

set_option maxHeartbeats 1000000 in
theorem ask_part (A : Option Addr) (n c : Nat) (zs : List E32) (i x m : Int) (w : World) (hr : Fd w A n zs) :
    Calls Try.prog 23 #[.slice A n c, .int .i64 i, .int .i64 x, .int .i64 m, .func (.func 28) #[] #[]] w (Ans zs i m x (shareV zs i.toNat x) w) := by
  have hu51 := Try.underlying51
  have hu49 := Try.underlying49
  have HR := Lib.hid hr
  have HL := Lib.hid hr.1
  have hn := hr.2.1
  obtain ⟨p1, p2, p3, p4, p5⟩ := wrong_at (zs := zs) (i := i) (m := m) (x := x)
  rw [hr.1] at p3 p4 p5
  have P1 := Lib.hid p1
  have P2 := Lib.hid p2
  have P3 := Lib.hid p3
  have P4 := Lib.hid p4
  have P5 := Lib.hid p5
  have PW := Lib.hid (wrong_ok (zs := zs) (i := i) (m := m) (x := x))
  clear p1 p2 p3 p4 p5 hr
  go_enter Try.func23, Try.ntmps23
  go_wp2_with fail
  refine (right _ _ _ zs _ _ (Fd.below HR.out (by repeat (first | exact Below.refl _ _ | assumption | refine Below.drew ?_ | refine below_dN ?_ _ | refine Below.setCell ?_ (by first | omega | (simp; done) | (simp; omega)) _ | refine below_al ?_ (by first | omega | (simp; done) | (simp; omega)) _ | refine below_tr (by assumption) ?_ (by first | omega | (simp; done) | (simp; omega)))))).mono ?_
  rintro e w1 ⟨rfl, hb1⟩
  obtain ⟨c1, f1⟩ := bcell hb1
  have z1 : w.heap.size < w1.heap.size := by have := hb1.size; simp at this; omega
  go_wp2_with (first | (go_at_call 34; refine (bytes _ _).mono ?_; rintro e w' ⟨rfl, rfl⟩))
  · go_ret2
    exact ⟨by rw [P1.out (by simpa using ‹(!rightF zs m) = true›)]; rfl, (by repeat (first | exact Below.refl _ _ | assumption | refine Below.drew ?_ | refine below_dN ?_ _ | refine Below.setCell ?_ (by first | omega | (simp; done) | (simp; omega)) _ | refine below_al ?_ (by first | omega | (simp; done) | (simp; omega)) _ | refine below_tr (by assumption) ?_ (by first | omega | (simp; done) | (simp; omega))))⟩
  all_goals have hrt := Lib.hid (show rightF zs m = true by simpa using ‹(!rightF zs m) = false›)
  all_goals clear HL
  all_goals try (go_ret2; refine ⟨?_, (by repeat (first | exact Below.refl _ _ | assumption | refine Below.drew ?_ | refine below_dN ?_ _ | refine Below.setCell ?_ (by first | omega | (simp; done) | (simp; omega)) _ | refine below_al ?_ (by first | omega | (simp; done) | (simp; omega)) _ | refine below_tr (by assumption) ?_ (by first | omega | (simp; done) | (simp; omega))))⟩; first | (rw [P2.out hrt.out (by omega)]; rfl) | (rw [P3.out hrt.out (by omega)]; rfl) | (rw [P4.out hrt.out (by omega) (by omega) (by simpa using ‹(!inB x 0 1073741824) = true›)]; rfl))
  all_goals
    obtain ⟨a1, a2, a3, a4, ⟨j, rfl, a5⟩, a6, a7⟩ := PW.out (P5.out hrt.out (by omega) (by omega) (by simpa using ‹(!inB x 0 1073741824) = false›))
    have hwz := P5.out hrt.out (by omega) (by omega) (by simpa using ‹(!inB x 0 1073741824) = false›)
    refine (part _ n _ zs _ j x _ (Fd.below HR.out (by repeat (first | exact Below.refl _ _ | assumption | refine Below.drew ?_ | refine below_dN ?_ _ | refine Below.setCell ?_ (by first | omega | (simp; done) | (simp; omega)) _ | refine below_al ?_ (by first | omega | (simp; done) | (simp; omega)) _ | refine below_tr (by assumption) ?_ (by first | omega | (simp; done) | (simp; omega))))) a1 (by have := HR.out.1; omega) (by have := HR.out.1; omega) a3 a4 a6 a7).mono ?_
    rintro e w2 ⟨rfl, hb2⟩
    go_wp2
    go_ret2
    exact ⟨by rw [hwz]; rfl, (by repeat (first | exact Below.refl _ _ | assumption | refine Below.drew ?_ | refine below_dN ?_ _ | refine Below.setCell ?_ (by first | omega | (simp; done) | (simp; omega)) _ | refine below_al ?_ (by first | omega | (simp; done) | (simp; omega)) _ | refine below_tr (by assumption) ?_ (by first | omega | (simp; done) | (simp; omega))))⟩
set_option maxHeartbeats 1000000 in
theorem ask_slow (A : Option Addr) (n c : Nat) (zs : List E32) (i x m : Int) (w : World) (hr : Fd w A n zs) :
    Calls Try.prog 23 #[.slice A n c, .int .i64 i, .int .i64 x, .int .i64 m, .func (.func 30) #[] #[]] w (Ans zs i m x (shareV zs i.toNat (mn x m)) w) := by
  have hu51 := Try.underlying51
  have hu49 := Try.underlying49
  have HR := Lib.hid hr
  have HL := Lib.hid hr.1
  have hn := hr.2.1
  obtain ⟨p1, p2, p3, p4, p5⟩ := wrong_at (zs := zs) (i := i) (m := m) (x := x)
  rw [hr.1] at p3 p4 p5
  have P1 := Lib.hid p1
  have P2 := Lib.hid p2
  have P3 := Lib.hid p3
  have P4 := Lib.hid p4
  have P5 := Lib.hid p5
  have PW := Lib.hid (wrong_ok (zs := zs) (i := i) (m := m) (x := x))
  clear p1 p2 p3 p4 p5 hr
  go_enter Try.func23, Try.ntmps23
  go_wp2_with fail
  refine (right _ _ _ zs _ _ (Fd.below HR.out (by repeat (first | exact Below.refl _ _ | assumption | refine Below.drew ?_ | refine below_dN ?_ _ | refine Below.setCell ?_ (by first | omega | (simp; done) | (simp; omega)) _ | refine below_al ?_ (by first | omega | (simp; done) | (simp; omega)) _ | refine below_tr (by assumption) ?_ (by first | omega | (simp; done) | (simp; omega)))))).mono ?_
  rintro e w1 ⟨rfl, hb1⟩
  obtain ⟨c1, f1⟩ := bcell hb1
  have z1 : w.heap.size < w1.heap.size := by have := hb1.size; simp at this; omega
  go_wp2_with (first | (go_at_call 34; refine (bytes _ _).mono ?_; rintro e w' ⟨rfl, rfl⟩))
  · go_ret2
    exact ⟨by rw [P1.out (by simpa using ‹(!rightF zs m) = true›)]; rfl, (by repeat (first | exact Below.refl _ _ | assumption | refine Below.drew ?_ | refine below_dN ?_ _ | refine Below.setCell ?_ (by first | omega | (simp; done) | (simp; omega)) _ | refine below_al ?_ (by first | omega | (simp; done) | (simp; omega)) _ | refine below_tr (by assumption) ?_ (by first | omega | (simp; done) | (simp; omega))))⟩
  all_goals have hrt := Lib.hid (show rightF zs m = true by simpa using ‹(!rightF zs m) = false›)
  all_goals clear HL
  all_goals try (go_ret2; refine ⟨?_, (by repeat (first | exact Below.refl _ _ | assumption | refine Below.drew ?_ | refine below_dN ?_ _ | refine Below.setCell ?_ (by first | omega | (simp; done) | (simp; omega)) _ | refine below_al ?_ (by first | omega | (simp; done) | (simp; omega)) _ | refine below_tr (by assumption) ?_ (by first | omega | (simp; done) | (simp; omega))))⟩; first | (rw [P2.out hrt.out (by omega)]; rfl) | (rw [P3.out hrt.out (by omega)]; rfl) | (rw [P4.out hrt.out (by omega) (by omega) (by simpa using ‹(!inB x 0 1073741824) = true›)]; rfl))
  all_goals
    obtain ⟨a1, a2, a3, a4, ⟨j, rfl, a5⟩, a6, a7⟩ := PW.out (P5.out hrt.out (by omega) (by omega) (by simpa using ‹(!inB x 0 1073741824) = false›))
    have hwz := P5.out hrt.out (by omega) (by omega) (by simpa using ‹(!inB x 0 1073741824) = false›)
    refine (slow _ n _ zs _ j x _ (Fd.below HR.out (by repeat (first | exact Below.refl _ _ | assumption | refine Below.drew ?_ | refine below_dN ?_ _ | refine Below.setCell ?_ (by first | omega | (simp; done) | (simp; omega)) _ | refine below_al ?_ (by first | omega | (simp; done) | (simp; omega)) _ | refine below_tr (by assumption) ?_ (by first | omega | (simp; done) | (simp; omega))))) a1 (by have := HR.out.1; omega) (by have := HR.out.1; omega) a3 a4 a6 a7).mono ?_
    rintro e w2 ⟨rfl, hb2⟩
    go_wp2
    go_ret2
    exact ⟨by rw [hwz]; rfl, (by repeat (first | exact Below.refl _ _ | assumption | refine Below.drew ?_ | refine below_dN ?_ _ | refine Below.setCell ?_ (by first | omega | (simp; done) | (simp; omega)) _ | refine below_al ?_ (by first | omega | (simp; done) | (simp; omega)) _ | refine below_tr (by assumption) ?_ (by first | omega | (simp; done) | (simp; omega))))⟩
set_option maxHeartbeats 1000000 in
theorem ask_avoid (A : Option Addr) (n c : Nat) (zs : List E32) (i x m : Int) (w : World) (hr : Fd w A n zs) :
    Calls Try.prog 23 #[.slice A n c, .int .i64 i, .int .i64 x, .int .i64 m, .func (.func 31) #[] #[]] w (Ans zs i m x (shareV zs i.toNat m) w) := by
  have hu51 := Try.underlying51
  have hu49 := Try.underlying49
  have HR := Lib.hid hr
  have HL := Lib.hid hr.1
  have hn := hr.2.1
  obtain ⟨p1, p2, p3, p4, p5⟩ := wrong_at (zs := zs) (i := i) (m := m) (x := x)
  rw [hr.1] at p3 p4 p5
  have P1 := Lib.hid p1
  have P2 := Lib.hid p2
  have P3 := Lib.hid p3
  have P4 := Lib.hid p4
  have P5 := Lib.hid p5
  have PW := Lib.hid (wrong_ok (zs := zs) (i := i) (m := m) (x := x))
  clear p1 p2 p3 p4 p5 hr
  go_enter Try.func23, Try.ntmps23
  go_wp2_with fail
  refine (right _ _ _ zs _ _ (Fd.below HR.out (by repeat (first | exact Below.refl _ _ | assumption | refine Below.drew ?_ | refine below_dN ?_ _ | refine Below.setCell ?_ (by first | omega | (simp; done) | (simp; omega)) _ | refine below_al ?_ (by first | omega | (simp; done) | (simp; omega)) _ | refine below_tr (by assumption) ?_ (by first | omega | (simp; done) | (simp; omega)))))).mono ?_
  rintro e w1 ⟨rfl, hb1⟩
  obtain ⟨c1, f1⟩ := bcell hb1
  have z1 : w.heap.size < w1.heap.size := by have := hb1.size; simp at this; omega
  go_wp2_with (first | (go_at_call 34; refine (bytes _ _).mono ?_; rintro e w' ⟨rfl, rfl⟩))
  · go_ret2
    exact ⟨by rw [P1.out (by simpa using ‹(!rightF zs m) = true›)]; rfl, (by repeat (first | exact Below.refl _ _ | assumption | refine Below.drew ?_ | refine below_dN ?_ _ | refine Below.setCell ?_ (by first | omega | (simp; done) | (simp; omega)) _ | refine below_al ?_ (by first | omega | (simp; done) | (simp; omega)) _ | refine below_tr (by assumption) ?_ (by first | omega | (simp; done) | (simp; omega))))⟩
  all_goals have hrt := Lib.hid (show rightF zs m = true by simpa using ‹(!rightF zs m) = false›)
  all_goals clear HL
  all_goals try (go_ret2; refine ⟨?_, (by repeat (first | exact Below.refl _ _ | assumption | refine Below.drew ?_ | refine below_dN ?_ _ | refine Below.setCell ?_ (by first | omega | (simp; done) | (simp; omega)) _ | refine below_al ?_ (by first | omega | (simp; done) | (simp; omega)) _ | refine below_tr (by assumption) ?_ (by first | omega | (simp; done) | (simp; omega))))⟩; first | (rw [P2.out hrt.out (by omega)]; rfl) | (rw [P3.out hrt.out (by omega)]; rfl) | (rw [P4.out hrt.out (by omega) (by omega) (by simpa using ‹(!inB x 0 1073741824) = true›)]; rfl))
  all_goals
    obtain ⟨a1, a2, a3, a4, ⟨j, rfl, a5⟩, a6, a7⟩ := PW.out (P5.out hrt.out (by omega) (by omega) (by simpa using ‹(!inB x 0 1073741824) = false›))
    have hwz := P5.out hrt.out (by omega) (by omega) (by simpa using ‹(!inB x 0 1073741824) = false›)
    refine (avoid _ n _ zs _ j x _ (Fd.below HR.out (by repeat (first | exact Below.refl _ _ | assumption | refine Below.drew ?_ | refine below_dN ?_ _ | refine Below.setCell ?_ (by first | omega | (simp; done) | (simp; omega)) _ | refine below_al ?_ (by first | omega | (simp; done) | (simp; omega)) _ | refine below_tr (by assumption) ?_ (by first | omega | (simp; done) | (simp; omega))))) a1 (by have := HR.out.1; omega) (by have := HR.out.1; omega) a3 a4 a6 a7).mono ?_
    rintro e w2 ⟨rfl, hb2⟩
    go_wp2
    go_ret2
    exact ⟨by rw [hwz]; rfl, (by repeat (first | exact Below.refl _ _ | assumption | refine Below.drew ?_ | refine below_dN ?_ _ | refine Below.setCell ?_ (by first | omega | (simp; done) | (simp; omega)) _ | refine below_al ?_ (by first | omega | (simp; done) | (simp; omega)) _ | refine below_tr (by assumption) ?_ (by first | omega | (simp; done) | (simp; omega))))⟩
set_option maxHeartbeats 1000000 in
theorem ask_cut (A : Option Addr) (n c : Nat) (zs : List E32) (i x m : Int) (w : World) (hr : Fd w A n zs) :
    Calls Try.prog 23 #[.slice A n c, .int .i64 i, .int .i64 x, .int .i64 m, .func (.func 24) #[] #[]] w (Ans zs i m x (cutV zs i.toNat m) w) := by
  have hu51 := Try.underlying51
  have hu49 := Try.underlying49
  have HR := Lib.hid hr
  have HL := Lib.hid hr.1
  have hn := hr.2.1
  obtain ⟨p1, p2, p3, p4, p5⟩ := wrong_at (zs := zs) (i := i) (m := m) (x := x)
  rw [hr.1] at p3 p4 p5
  have P1 := Lib.hid p1
  have P2 := Lib.hid p2
  have P3 := Lib.hid p3
  have P4 := Lib.hid p4
  have P5 := Lib.hid p5
  have PW := Lib.hid (wrong_ok (zs := zs) (i := i) (m := m) (x := x))
  clear p1 p2 p3 p4 p5 hr
  go_enter Try.func23, Try.ntmps23
  go_wp2_with fail
  refine (right _ _ _ zs _ _ (Fd.below HR.out (by repeat (first | exact Below.refl _ _ | assumption | refine Below.drew ?_ | refine below_dN ?_ _ | refine Below.setCell ?_ (by first | omega | (simp; done) | (simp; omega)) _ | refine below_al ?_ (by first | omega | (simp; done) | (simp; omega)) _ | refine below_tr (by assumption) ?_ (by first | omega | (simp; done) | (simp; omega)))))).mono ?_
  rintro e w1 ⟨rfl, hb1⟩
  obtain ⟨c1, f1⟩ := bcell hb1
  have z1 : w.heap.size < w1.heap.size := by have := hb1.size; simp at this; omega
  go_wp2_with (first | (go_at_call 34; refine (bytes _ _).mono ?_; rintro e w' ⟨rfl, rfl⟩))
  · go_ret2
    exact ⟨by rw [P1.out (by simpa using ‹(!rightF zs m) = true›)]; rfl, (by repeat (first | exact Below.refl _ _ | assumption | refine Below.drew ?_ | refine below_dN ?_ _ | refine Below.setCell ?_ (by first | omega | (simp; done) | (simp; omega)) _ | refine below_al ?_ (by first | omega | (simp; done) | (simp; omega)) _ | refine below_tr (by assumption) ?_ (by first | omega | (simp; done) | (simp; omega))))⟩
  all_goals have hrt := Lib.hid (show rightF zs m = true by simpa using ‹(!rightF zs m) = false›)
  all_goals clear HL
  all_goals try (go_ret2; refine ⟨?_, (by repeat (first | exact Below.refl _ _ | assumption | refine Below.drew ?_ | refine below_dN ?_ _ | refine Below.setCell ?_ (by first | omega | (simp; done) | (simp; omega)) _ | refine below_al ?_ (by first | omega | (simp; done) | (simp; omega)) _ | refine below_tr (by assumption) ?_ (by first | omega | (simp; done) | (simp; omega))))⟩; first | (rw [P2.out hrt.out (by omega)]; rfl) | (rw [P3.out hrt.out (by omega)]; rfl) | (rw [P4.out hrt.out (by omega) (by omega) (by simpa using ‹(!inB x 0 1073741824) = true›)]; rfl))
  all_goals
    obtain ⟨a1, a2, a3, a4, ⟨j, rfl, a5⟩, a6, a7⟩ := PW.out (P5.out hrt.out (by omega) (by omega) (by simpa using ‹(!inB x 0 1073741824) = false›))
    have hwz := P5.out hrt.out (by omega) (by omega) (by simpa using ‹(!inB x 0 1073741824) = false›)
    refine (cut _ n _ zs _ j x _ (Fd.below HR.out (by repeat (first | exact Below.refl _ _ | assumption | refine Below.drew ?_ | refine below_dN ?_ _ | refine Below.setCell ?_ (by first | omega | (simp; done) | (simp; omega)) _ | refine below_al ?_ (by first | omega | (simp; done) | (simp; omega)) _ | refine below_tr (by assumption) ?_ (by first | omega | (simp; done) | (simp; omega))))) a1 (by have := HR.out.1; omega) (by have := HR.out.1; omega) a3 a4 a6 a7).mono ?_
    rintro e w2 ⟨rfl, hb2⟩
    go_wp2
    go_ret2
    exact ⟨by rw [hwz]; rfl, (by repeat (first | exact Below.refl _ _ | assumption | refine Below.drew ?_ | refine below_dN ?_ _ | refine Below.setCell ?_ (by first | omega | (simp; done) | (simp; omega)) _ | refine below_al ?_ (by first | omega | (simp; done) | (simp; omega)) _ | refine below_tr (by assumption) ?_ (by first | omega | (simp; done) | (simp; omega))))⟩
set_option maxHeartbeats 400000 in
theorem part' (A : Option Addr) (n c : Nat) (zs : List E32) (i x : Int) (w : World) (hr : Fd w A n zs) :
    Calls Try.prog 13 #[.slice A n c, .int .i64 i, .int .i64 x] w (Ans zs i 1 x (shareV zs i.toNat x) w) := by
  have HR := Lib.hid hr
  clear hr
  go_enter Try.func13, Try.ntmps13
  go_wp2_with (go_at_call 23; refine (ask_part _ _ _ zs _ _ _ _ HR.out).mono ?_; rintro e w' ⟨rfl, hbn⟩)
  go_ret2
  exact ⟨rfl, (by repeat (first | exact Below.refl _ _ | assumption | refine Below.drew ?_ | refine below_dN ?_ _ | refine Below.setCell ?_ (by first | omega | (simp; done) | (simp; omega)) _ | refine below_al ?_ (by first | omega | (simp; done) | (simp; omega)) _ | refine below_tr (by assumption) ?_ (by first | omega | (simp; done) | (simp; omega))))⟩
set_option maxHeartbeats 400000 in
theorem slow' (A : Option Addr) (n c : Nat) (zs : List E32) (i x m : Int) (w : World) (hr : Fd w A n zs) :
    Calls Try.prog 16 #[.slice A n c, .int .i64 i, .int .i64 x, .int .i64 m] w (Ans zs i m x (shareV zs i.toNat (mn x m)) w) := by
  have HR := Lib.hid hr
  clear hr
  go_enter Try.func16, Try.ntmps16
  go_wp2_with (go_at_call 23; refine (ask_slow _ _ _ zs _ _ _ _ HR.out).mono ?_; rintro e w' ⟨rfl, hbn⟩)
  go_ret2
  exact ⟨rfl, (by repeat (first | exact Below.refl _ _ | assumption | refine Below.drew ?_ | refine below_dN ?_ _ | refine Below.setCell ?_ (by first | omega | (simp; done) | (simp; omega)) _ | refine below_al ?_ (by first | omega | (simp; done) | (simp; omega)) _ | refine below_tr (by assumption) ?_ (by first | omega | (simp; done) | (simp; omega))))⟩
set_option maxHeartbeats 400000 in
theorem avoid' (A : Option Addr) (n c : Nat) (zs : List E32) (i m : Int) (w : World) (hr : Fd w A n zs) :
    Calls Try.prog 18 #[.slice A n c, .int .i64 i, .int .i64 m] w (Ans zs i m 0 (shareV zs i.toNat m) w) := by
  have HR := Lib.hid hr
  clear hr
  go_enter Try.func18, Try.ntmps18
  go_wp2_with (go_at_call 23; refine (ask_avoid _ _ _ zs _ _ _ _ HR.out).mono ?_; rintro e w' ⟨rfl, hbn⟩)
  go_ret2
  exact ⟨rfl, (by repeat (first | exact Below.refl _ _ | assumption | refine Below.drew ?_ | refine below_dN ?_ _ | refine Below.setCell ?_ (by first | omega | (simp; done) | (simp; omega)) _ | refine below_al ?_ (by first | omega | (simp; done) | (simp; omega)) _ | refine below_tr (by assumption) ?_ (by first | omega | (simp; done) | (simp; omega))))⟩
set_option maxHeartbeats 400000 in
theorem cut' (A : Option Addr) (n c : Nat) (zs : List E32) (i m : Int) (w : World) (hr : Fd w A n zs) :
    Calls Try.prog 9 #[.slice A n c, .int .i64 i, .int .i64 m] w (Ans zs i m 0 (cutV zs i.toNat m) w) := by
  have HR := Lib.hid hr
  clear hr
  go_enter Try.func9, Try.ntmps9
  go_wp2_with (go_at_call 23; refine (ask_cut _ _ _ zs _ _ _ _ HR.out).mono ?_; rintro e w' ⟨rfl, hbn⟩)
  go_ret2
  exact ⟨rfl, (by repeat (first | exact Below.refl _ _ | assumption | refine Below.drew ?_ | refine below_dN ?_ _ | refine Below.setCell ?_ (by first | omega | (simp; done) | (simp; omega)) _ | refine below_al ?_ (by first | omega | (simp; done) | (simp; omega)) _ | refine below_tr (by assumption) ?_ (by first | omega | (simp; done) | (simp; omega))))⟩
set_option maxHeartbeats 1000000 in
theorem rpart (A : Option Addr) (n c : Nat) (zs : List E32) (i x : Int) (w : World) (hr : Fd w A n zs) :
    Calls Try.prog 14 #[.slice A n c, .int .i64 i, .int .i64 x] w (Ans zs i 1 x (shareV zs i.toNat x) w) := by
  have HR := Lib.hid hr
  have PW := Lib.hid (wrong_ok (zs := zs) (i := i) (m := 1) (x := x))
  clear hr
  go_enter Try.func14, Try.ntmps14
  go_wp2_with (go_at_call 25; refine (wrong _ _ _ zs _ _ _ _ HR.out).mono ?_; rintro e w' ⟨rfl, rfl⟩)
  · go_ret2
    exact ⟨by rw [if0, if_neg (by simpa using ‹(wrongF zs _ _ _ != 0) = true›)]; rfl, (by repeat (first | exact Below.refl _ _ | assumption | refine Below.drew ?_ | refine below_dN ?_ _ | refine Below.setCell ?_ (by first | omega | (simp; done) | (simp; omega)) _ | refine below_al ?_ (by first | omega | (simp; done) | (simp; omega)) _ | refine below_tr (by assumption) ?_ (by first | omega | (simp; done) | (simp; omega))))⟩
  all_goals
    have hwz : wrongF zs i 1 x = 0 := by simpa using ‹(wrongF zs _ _ _ != 0) = false›
    obtain ⟨a1, a2, a3, a4, ⟨j, rfl, a5⟩, a6, a7⟩ := PW.out hwz
    have a8 := HR.out.1
    refine (rshare _ n _ zs j _ _ HR.out a1 (by omega) (by omega) a6 a7).mono ?_
    rintro e w2 ⟨rfl, rfl⟩
    go_wp2
    go_ret2
    exact ⟨by rw [hwz]; rfl, (by repeat (first | exact Below.refl _ _ | assumption | refine Below.drew ?_ | refine below_dN ?_ _ | refine Below.setCell ?_ (by first | omega | (simp; done) | (simp; omega)) _ | refine below_al ?_ (by first | omega | (simp; done) | (simp; omega)) _ | refine below_tr (by assumption) ?_ (by first | omega | (simp; done) | (simp; omega))))⟩
set_option maxHeartbeats 1000000 in
theorem rslow (A : Option Addr) (n c : Nat) (zs : List E32) (i x m : Int) (w : World) (hr : Fd w A n zs) :
    Calls Try.prog 17 #[.slice A n c, .int .i64 i, .int .i64 x, .int .i64 m] w (Ans zs i m x (shareV zs i.toNat (mn x m)) w) := by
  have HR := Lib.hid hr
  have PW := Lib.hid (wrong_ok (zs := zs) (i := i) (m := m) (x := x))
  clear hr
  go_enter Try.func17, Try.ntmps17
  go_wp2_with (go_at_call 25; refine (wrong _ _ _ zs _ _ _ _ HR.out).mono ?_; rintro e w' ⟨rfl, rfl⟩)
  · go_ret2
    exact ⟨by rw [if0, if_neg (by simpa using ‹(wrongF zs _ _ _ != 0) = true›)]; rfl, (by repeat (first | exact Below.refl _ _ | assumption | refine Below.drew ?_ | refine below_dN ?_ _ | refine Below.setCell ?_ (by first | omega | (simp; done) | (simp; omega)) _ | refine below_al ?_ (by first | omega | (simp; done) | (simp; omega)) _ | refine below_tr (by assumption) ?_ (by first | omega | (simp; done) | (simp; omega))))⟩
  all_goals
    have hwz : wrongF zs i m x = 0 := by simpa using ‹(wrongF zs _ _ _ != 0) = false›
    obtain ⟨a1, a2, a3, a4, ⟨j, rfl, a5⟩, a6, a7⟩ := PW.out hwz
    have a8 := HR.out.1
    refine (rshare _ n _ zs j _ _ HR.out a1 (by omega) (by omega) (by omega) (by omega)).mono ?_
    rintro e w2 ⟨rfl, rfl⟩
    go_wp2
    go_ret2
    exact ⟨by rw [hwz]; simp only [mn]; first | rw [if_pos (by omega)]; rfl | rw [if_neg (by omega)]; rfl, (by repeat (first | exact Below.refl _ _ | assumption | refine Below.drew ?_ | refine below_dN ?_ _ | refine Below.setCell ?_ (by first | omega | (simp; done) | (simp; omega)) _ | refine below_al ?_ (by first | omega | (simp; done) | (simp; omega)) _ | refine below_tr (by assumption) ?_ (by first | omega | (simp; done) | (simp; omega))))⟩
set_option maxHeartbeats 1000000 in
theorem ravoid (A : Option Addr) (n c : Nat) (zs : List E32) (i m : Int) (w : World) (hr : Fd w A n zs) :
    Calls Try.prog 19 #[.slice A n c, .int .i64 i, .int .i64 m] w (Ans zs i m 0 (shareV zs i.toNat m) w) := by
  have HR := Lib.hid hr
  have PW := Lib.hid (wrong_ok (zs := zs) (i := i) (m := m) (x := 0))
  clear hr
  go_enter Try.func19, Try.ntmps19
  go_wp2_with (go_at_call 25; refine (wrong _ _ _ zs _ _ _ _ HR.out).mono ?_; rintro e w' ⟨rfl, rfl⟩)
  · go_ret2
    exact ⟨by rw [if0, if_neg (by simpa using ‹(wrongF zs _ _ _ != 0) = true›)]; rfl, (by repeat (first | exact Below.refl _ _ | assumption | refine Below.drew ?_ | refine below_dN ?_ _ | refine Below.setCell ?_ (by first | omega | (simp; done) | (simp; omega)) _ | refine below_al ?_ (by first | omega | (simp; done) | (simp; omega)) _ | refine below_tr (by assumption) ?_ (by first | omega | (simp; done) | (simp; omega))))⟩
  all_goals
    have hwz : wrongF zs i m 0 = 0 := by simpa using ‹(wrongF zs _ _ _ != 0) = false›
    obtain ⟨a1, a2, a3, a4, ⟨j, rfl, a5⟩, a6, a7⟩ := PW.out hwz
    have a8 := HR.out.1
    refine (rshare _ n _ zs j _ _ HR.out a1 (by omega) (by omega) (by omega) (by omega)).mono ?_
    rintro e w2 ⟨rfl, rfl⟩
    go_wp2
    go_ret2
    exact ⟨by rw [hwz]; rfl, (by repeat (first | exact Below.refl _ _ | assumption | refine Below.drew ?_ | refine below_dN ?_ _ | refine Below.setCell ?_ (by first | omega | (simp; done) | (simp; omega)) _ | refine below_al ?_ (by first | omega | (simp; done) | (simp; omega)) _ | refine below_tr (by assumption) ?_ (by first | omega | (simp; done) | (simp; omega))))⟩

set_option maxHeartbeats 2000000 in
theorem rcut (A : Option Addr) (n c : Nat) (zs : List E32) (i m : Int) (w : World) (hr : Fd w A n zs) :
    Calls Try.prog 10 #[.slice A n c, .int .i64 i, .int .i64 m] w (Ans zs i m 0 (cutV zs i.toNat m) w) := by
  have hu32 := Try.underlying32
  have HR := Lib.hid hr
  have HL := Lib.hid hr.1
  have PW := Lib.hid (wrong_ok (zs := zs) (i := i) (m := m) (x := 0))
  clear hr
  go_enter Try.func10, Try.ntmps10
  go_wp2_with (go_at_call 25; refine (wrong _ _ _ zs _ _ _ _ HR.out).mono ?_; rintro e w' ⟨rfl, rfl⟩)
  · go_ret2
    exact ⟨by rw [if0, if_neg (by simpa using ‹(wrongF zs _ _ _ != 0) = true›)]; rfl, (by repeat (first | exact Below.refl _ _ | assumption | refine Below.drew ?_ | refine below_dN ?_ _ | refine Below.setCell ?_ (by first | omega | (simp; done) | (simp; omega)) _ | refine below_al ?_ (by first | omega | (simp; done) | (simp; omega)) _ | refine below_tr (by assumption) ?_ (by first | omega | (simp; done) | (simp; omega))))⟩
  have hwz : wrongF zs i m 0 = 0 := by simpa using ‹(wrongF zs _ _ _ != 0) = false›
  obtain ⟨a1, a2, a3, a4, ⟨j, rfl, a5⟩, a6, a7⟩ := PW.out hwz
  have HK := Lib.hid a1
  have hj : j < n := by rw [← HL.out]; exact a5
  have hn8 : n ≤ 8 := by rw [← HL.out]; exact a2
  have HB := Lib.hid (fun k (hk : k ≤ n) => sumC_bound HK.out k (by rw [HL.out]; exact hk))
  obtain ⟨g0, g1, _, _⟩ := okFs_at HK.out j a5
  have HD := Lib.hid (show cutV zs j m = mx (mx (gc zs j - sumC zs / 2) (shareV zs j (4 * m))) m from rfl)
  have hall := HB.out n (Nat.le_refl _)
  rw [List.take_of_length_le (by rw [HL.out]; omega)] at hall
  obtain ⟨s0, s1⟩ := hall
  have HWZ := Lib.hid hwz
  clear hwz a1 PW
  go_wp2
  go_loop [9, 10] (fun s i => ∃ k : Nat, k ≤ n ∧ i = .int .i64 k ∧ (∃ S : Int, s = .int .i64 S ∧ Hid (S = sumC (zs.take k)))) (fun _ i => n - (intOf i).toNat)
  case atStart => exact ⟨0, by omega, rfl, ⟨0, rfl, rfl⟩⟩
  case round =>
    obtain ⟨k, hk, rfl, ⟨S, rfl, ho⟩⟩ := hrel
    have hs := HB.out k hk
    rw [← ho.out] at hs
    obtain ⟨_, _, hc'⟩ := HR.out
    by_cases hlt : k < n
    · obtain ⟨ad, rfl, hcell⟩ := hc' (by omega)
      obtain ⟨hck, htk⟩ := hcell k hlt
      have hst := Lib.hid (sumC_snoc zs k (by rw [HL.out]; exact hlt))
      have hg := HB.out (k + 1) (by omega)
      rw [hst.out, ← ho.out] at hg
      clear hcell
      go_wp2
      go_round
      case rel => exact ⟨k + 1, by omega, by go_num, ⟨_, rfl, by show _ = sumC _; rw [hst.out, ho.out]⟩⟩
      case measure => simp [intOf]; omega
    · obtain ⟨ad, rfl, hcell⟩ := hc' (by omega)
      obtain ⟨hck, htk⟩ := hcell j hj
      have hkn : k = n := by omega
      have hfin : S = sumC zs := by rw [ho.out, List.take_of_length_le (by rw [HL.out]; omega)]
      subst hfin
      have hw0 : IntKind.i64.wrap ((sumC zs).tdiv 2) = sumC zs / 2 := by rw [Int.tdiv_eq_ediv_of_nonneg (by omega), IntKind.wrap_i64]; omega
      have hw1 : IntKind.i64.wrap (gc zs j - sumC zs / 2) = gc zs j - sumC zs / 2 := by rw [IntKind.wrap_i64]; omega
      have hw2 : IntKind.i64.wrap (4 * m) = 4 * m := by rw [IntKind.wrap_i64]; omega
      clear hcell
      go_wp2_with (first | (go_at_call 26; refine (rshare _ n _ zs j _ _ HR.out HK.out (by omega) (by omega) (by omega) (by omega)).mono ?_; rintro e w2 ⟨rfl, rfl⟩))
      all_goals
        go_ret2
        exact ⟨by rw [HWZ.out]; simp only [if0, Int.toNat_natCast]; rw [HD.out]; simp only [mx]; (repeat' split) <;> first | rfl | omega, (by repeat (first | exact Below.refl _ _ | assumption | refine Below.drew ?_ | refine below_dN ?_ _ | refine Below.setCell ?_ (by first | omega | (simp; done) | (simp; omega)) _ | refine below_al ?_ (by first | omega | (simp; done) | (simp; omega)) _ | refine below_tr (by assumption) ?_ (by first | omega | (simp; done) | (simp; omega))))⟩
