/- The laws CoupleShares, CoupleGrows, CoupleCuts. -/
import Derived.Test.YtmbklkgaapncfaaE
namespace Go.Proofs.Ytmbklkgaapncfaa.C
open Go.RowKit OpenStruct
set_option linter.unusedVariables false
set_option linter.unusedSimpArgs false
attribute [local go_sem high] max2_mx min2_mn max_two min_two
attribute [local go_sem ↓] Go.wp_at_zero Go.wp_at_succ

def two : List E32 := [⟨20000, 3000⟩, ⟨10000, 1000⟩]
theorem two_0 (r : Int) : if0 (wrongF two 0 1 1500) r = r ∧ wrongF two 0 1 1500 = 0 := by
  have : wrongF two 0 1 1500 = 0 := by decide
  rw [this]; exact ⟨rfl, rfl⟩
theorem two_1 (r : Int) : if0 (wrongF two 0 1500 0) r = r ∧ wrongF two 0 1500 0 = 0 := by
  have : wrongF two 0 1500 0 = 0 := by decide
  rw [this]; exact ⟨rfl, rfl⟩
theorem two_s : shareV two (0 : Int).toNat 1500 = 1125 := by decide
theorem two_c : cutV two (0 : Int).toNat 1500 = 5000 := by decide
theorem Fd_two (w : World) (ty : TypeId) : Fd (w.alloc (.cells #[.int .i64 20000, .int .i64 3000, .int .i64 10000, .int .i64 1000] ty)) (some ⟨w.heap.size, 0, none⟩) 2 two := by
  refine ⟨rfl, by omega, fun _ => ⟨_, rfl, fun j hj => ?_⟩⟩
  rw [add_plain]
  match j, hj with
  | 0, _ => exact ⟨by simp [go_sem]; rfl, by simp [go_sem]; rfl⟩
  | 1, _ => exact ⟨by simp [go_sem]; rfl, by simp [go_sem]; rfl⟩
set_option maxHeartbeats 1000000 in
theorem alive (w : World) : Calls Try.prog 11 #[] w fun e w' => e = .returned (.bool true) ∧ Below w.heap.size w w' := by
  go_enter Try.func11, Try.ntmps11
  go_wp2_with fail
  refine (part' _ _ _ two _ _ _ (Fd_two _ _)).mono ?_
  unfold Ans
  simp only [two_0, two_s]
  rintro e w1 ⟨rfl, hb1⟩
  go_wp2_with fail
  refine (cut' _ _ _ two _ _ _ (Fd.below (Fd_two _ _) hb1)).mono ?_
  unfold Ans
  simp only [two_1, two_c]
  rintro e w2 ⟨rfl, hb2⟩
  go_wp2
  go_ret
  exact ⟨rfl, (by repeat (first | exact Below.refl _ _ | assumption | refine Below.drew ?_ | refine below_dN ?_ _ | refine Below.setCell ?_ (by first | omega | (simp; done) | (simp; omega)) _ | refine below_al ?_ (by first | omega | (simp; done) | (simp; omega)) _ | refine below_tr (by assumption) ?_ (by first | omega | (simp; done) | (simp; omega))))⟩

set_option maxHeartbeats 1000000 in
theorem walk_CoupleShares (a0 : Option Addr) (len0 cap0 : Nat) (z0 : List E32) (a1 a2 a3 : Int) (w : World) (w0 : Row32 w a0 len0 cap0 z0) (w1 : (Lit.int .i64 a1).wf = true) (w2 : (Lit.int .i64 a2).wf = true) (w3 : (Lit.int .i64 a3).wf = true) :
    Calls Try.prog 5 #[.slice a0 len0 cap0, .int .i64 a1, .int .i64 a2, .int .i64 a3] w fun e w' => e = .returned (.bool true) ∧ Below w.heap.size w w' := by
  have HR := Lib.hid (Fd.of_row w0)
  clear w0 w1 w2 w3
  go_enter Try.func5, Try.ntmps5
  go_wp2_with fail
  refine (part' _ _ _ z0 _ _ _ HR.out).mono ?_
  rintro e w1 ⟨rfl, hb1⟩
  go_wp2_with fail
  refine (rpart _ _ _ z0 _ _ _ (Fd.below HR.out (by repeat (first | exact Below.refl _ _ | assumption | refine Below.drew ?_ | refine below_dN ?_ _ | refine Below.setCell ?_ (by first | omega | (simp; done) | (simp; omega)) _ | refine below_al ?_ (by first | omega | (simp; done) | (simp; omega)) _ | refine below_tr (by assumption) ?_ (by first | omega | (simp; done) | (simp; omega)))))).mono ?_
  rintro e w2 ⟨rfl, hb2⟩
  go_wp2_with (first | (go_at_call 15; refine (check _ _ _ z0 _ _ (Fd.below HR.out (by repeat (first | exact Below.refl _ _ | assumption | refine Below.drew ?_ | refine below_dN ?_ _ | refine Below.setCell ?_ (by first | omega | (simp; done) | (simp; omega)) _ | refine below_al ?_ (by first | omega | (simp; done) | (simp; omega)) _ | refine below_tr (by assumption) ?_ (by first | omega | (simp; done) | (simp; omega)))))).mono ?_; rintro e w3 ⟨rfl, hb3⟩) | (go_at_call 12; refine (rcheck _ _ _ z0 _ _ (Fd.below HR.out (by repeat (first | exact Below.refl _ _ | assumption | refine Below.drew ?_ | refine below_dN ?_ _ | refine Below.setCell ?_ (by first | omega | (simp; done) | (simp; omega)) _ | refine below_al ?_ (by first | omega | (simp; done) | (simp; omega)) _ | refine below_tr (by assumption) ?_ (by first | omega | (simp; done) | (simp; omega)))))).mono ?_; rintro e w3 ⟨rfl, rfl⟩) | (go_at_call 11; refine (alive _).mono ?_; rintro e w4 ⟨rfl, hb4⟩))
  go_ret
  exact ⟨rfl, (by repeat (first | exact Below.refl _ _ | assumption | refine Below.drew ?_ | refine below_dN ?_ _ | refine Below.setCell ?_ (by first | omega | (simp; done) | (simp; omega)) _ | refine below_al ?_ (by first | omega | (simp; done) | (simp; omega)) _ | refine below_tr (by assumption) ?_ (by first | omega | (simp; done) | (simp; omega))))⟩
set_option maxHeartbeats 1000000 in
theorem walk_CoupleGrows (a0 : Option Addr) (len0 cap0 : Nat) (z0 : List E32) (a1 a2 a3 : Int) (w : World) (w0 : Row32 w a0 len0 cap0 z0) (w1 : (Lit.int .i64 a1).wf = true) (w2 : (Lit.int .i64 a2).wf = true) (w3 : (Lit.int .i64 a3).wf = true) :
    Calls Try.prog 6 #[.slice a0 len0 cap0, .int .i64 a1, .int .i64 a2, .int .i64 a3] w fun e w' => e = .returned (.bool true) ∧ Below w.heap.size w w' := by
  have HR := Lib.hid (Fd.of_row w0)
  clear w0 w1 w2 w3
  go_enter Try.func6, Try.ntmps6
  go_wp2_with fail
  refine (slow' _ _ _ z0 _ _ _ _ HR.out).mono ?_
  rintro e w1 ⟨rfl, hb1⟩
  go_wp2_with fail
  refine (rslow _ _ _ z0 _ _ _ _ (Fd.below HR.out (by repeat (first | exact Below.refl _ _ | assumption | refine Below.drew ?_ | refine below_dN ?_ _ | refine Below.setCell ?_ (by first | omega | (simp; done) | (simp; omega)) _ | refine below_al ?_ (by first | omega | (simp; done) | (simp; omega)) _ | refine below_tr (by assumption) ?_ (by first | omega | (simp; done) | (simp; omega)))))).mono ?_
  rintro e w2 ⟨rfl, hb2⟩
  go_wp2_with fail
  refine (avoid' _ _ _ z0 _ _ _ (Fd.below HR.out (by repeat (first | exact Below.refl _ _ | assumption | refine Below.drew ?_ | refine below_dN ?_ _ | refine Below.setCell ?_ (by first | omega | (simp; done) | (simp; omega)) _ | refine below_al ?_ (by first | omega | (simp; done) | (simp; omega)) _ | refine below_tr (by assumption) ?_ (by first | omega | (simp; done) | (simp; omega)))))).mono ?_
  rintro e w3 ⟨rfl, hb3⟩
  go_wp2_with fail
  refine (ravoid _ _ _ z0 _ _ _ (Fd.below HR.out (by repeat (first | exact Below.refl _ _ | assumption | refine Below.drew ?_ | refine below_dN ?_ _ | refine Below.setCell ?_ (by first | omega | (simp; done) | (simp; omega)) _ | refine below_al ?_ (by first | omega | (simp; done) | (simp; omega)) _ | refine below_tr (by assumption) ?_ (by first | omega | (simp; done) | (simp; omega)))))).mono ?_
  rintro e w4 ⟨rfl, hb4⟩
  go_wp2_with (first | (go_at_call 11; refine (alive _).mono ?_; rintro e w5 ⟨rfl, hb5⟩))
  go_ret
  exact ⟨rfl, (by repeat (first | exact Below.refl _ _ | assumption | refine Below.drew ?_ | refine below_dN ?_ _ | refine Below.setCell ?_ (by first | omega | (simp; done) | (simp; omega)) _ | refine below_al ?_ (by first | omega | (simp; done) | (simp; omega)) _ | refine below_tr (by assumption) ?_ (by first | omega | (simp; done) | (simp; omega))))⟩
set_option maxHeartbeats 1000000 in
theorem walk_CoupleCuts (a0 : Option Addr) (len0 cap0 : Nat) (z0 : List E32) (a1 a2 : Int) (w : World) (w0 : Row32 w a0 len0 cap0 z0) (w1 : (Lit.int .i64 a1).wf = true) (w2 : (Lit.int .i64 a2).wf = true) :
    Calls Try.prog 3 #[.slice a0 len0 cap0, .int .i64 a1, .int .i64 a2] w fun e w' => e = .returned (.bool true) ∧ Below w.heap.size w w' := by
  have HR := Lib.hid (Fd.of_row w0)
  clear w0 w1 w2
  have hge : wrongF z0 a1 a2 0 = 0 → a2 ≤ if0 (wrongF z0 a1 a2 0) (cutV z0 a1.toNat a2) := by
    intro h
    rw [if0, if_pos h]
    unfold cutV
    rw [mx_def]
    split <;> omega
  have HGE := Lib.hid hge
  clear hge
  go_enter Try.func3, Try.ntmps3
  go_wp2_with fail
  refine (cut' _ _ _ z0 _ _ _ HR.out).mono ?_
  rintro e w1 ⟨rfl, hb1⟩
  go_wp2_with fail
  refine (rcut _ _ _ z0 _ _ _ (Fd.below HR.out (by repeat (first | exact Below.refl _ _ | assumption | refine Below.drew ?_ | refine below_dN ?_ _ | refine Below.setCell ?_ (by first | omega | (simp; done) | (simp; omega)) _ | refine below_al ?_ (by first | omega | (simp; done) | (simp; omega)) _ | refine below_tr (by assumption) ?_ (by first | omega | (simp; done) | (simp; omega)))))).mono ?_
  rintro e w2 ⟨rfl, hb2⟩
  go_wp2_with (first | (go_at_call 11; refine (alive _).mono ?_; rintro e w4 ⟨rfl, hb4⟩))
  all_goals go_ret
  all_goals refine ⟨ret_bool ?_, (by repeat (first | exact Below.refl _ _ | assumption | refine Below.drew ?_ | refine below_dN ?_ _ | refine Below.setCell ?_ (by first | omega | (simp; done) | (simp; omega)) _ | refine below_al ?_ (by first | omega | (simp; done) | (simp; omega)) _ | refine below_tr (by assumption) ?_ (by first | omega | (simp; done) | (simp; omega))))⟩
  all_goals first
    | rfl
    | (have hge := HGE.out (by first | assumption | simpa using ‹¬ (wrongF z0 a1 a2 0 != 0) = true› | simpa using ‹(wrongF z0 a1 a2 0 != 0) = false›)
       simp only [decide_eq_true_eq]
       exact hge)
    | (exfalso; have hz : wrongF z0 a1 a2 0 = 0 := (by assumption); have hge := HGE.out hz; rw [hz] at hge; omega)
