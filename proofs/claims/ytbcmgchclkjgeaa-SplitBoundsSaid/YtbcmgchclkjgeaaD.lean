/- Contracts of layer 14's reference, and of split's Share and Total. -/
import Derived.Test.YtbcmgchclkjgeaaC
import Derived.Deep.QuietTactic
import Derived.BigQuiet
namespace Go.Proofs.Ytbcmgchclkjgeaa.C
open Go.RowKit
set_option linter.unusedVariables false
set_option linter.unusedSimpArgs false
attribute [local go_sem high] max2_mx min2_mn max_two min_two

/-! ### part: the least whole number that is as great as n / p -/
theorem part_fin (n p x : Int) (hp : 1 ≤ p) (h0 : n ≤ x * p) (h1 : x * p < n + p) : x = ceilB n p := by
  unfold ceilB
  have h2 : n + p - 1 = x * p + (n + p - 1 - x * p) := by omega
  have h3 : 0 ≤ n + p - 1 - x * p := by omega
  have h4 : n + p - 1 - x * p < p := by omega
  rw [h2, Int.add_comm, Int.add_mul_ediv_right _ _ (by omega), Int.ediv_eq_zero_of_lt h3 h4]
  omega
theorem part_step (n p x : Int) (hp : 1 ≤ p) (h : x * p < n) : (x + mx ((n - x * p) / p) 1) * p < n + p ∧ x * p < (x + mx ((n - x * p) / p) 1) * p ∧ 1 ≤ mx ((n - x * p) / p) 1 ∧ mx ((n - x * p) / p) 1 ≤ n - x * p := by
  have h1 := Int.ediv_mul_le (n - x * p) (show p ≠ 0 by omega)
  have h2 : (x + mx ((n - x * p) / p) 1) * p = x * p + mx ((n - x * p) / p) 1 * p := Int.add_mul ..
  have h3 : (n - x * p) / p ≤ n - x * p := Int.ediv_le_self _ (by omega)
  rw [h2, mx_def]
  split
  · rw [Int.one_mul]; omega
  · rename_i hq
    have h4 : 1 * p ≤ (n - x * p) / p * p := Int.mul_le_mul_of_nonneg_right (by omega) (by omega)
    omega
theorem le_mul (x p : Int) (hx : 0 ≤ x) (hp : 1 ≤ p) : x ≤ x * p := by
  have := Int.mul_le_mul_of_nonneg_left hp hx
  omega
set_option maxHeartbeats 1000000 in
theorem part (n p : Int) (w : World) (hn0 : 0 ≤ n) (hn : n ≤ 1073741824) (hp0 : 1 ≤ p) (hp : p ≤ 8) :
    Calls Try.prog 27 #[.int .i64 n, .int .i64 p] w fun e w' => e = .returned (.int .i64 (ceilB n p)) ∧ w = w' := by
  have hz : (p == 0) = false := by simp; omega
  have hz2 : ¬ p = 0 := by omega
  go_enter Try.func27, Try.ntmps27
  go_wp2
  go_loop [5, 6] (fun v _ => ∃ x : Int, v = .int .i64 x ∧ 0 ≤ x ∧ x * p < n + p) (fun v _ => (n - intOf v * p).toNat)
  case atStart => exact ⟨0, rfl, by omega, by omega⟩
  case round =>
    obtain ⟨x, rfl, hx0, hx1⟩ := hrel
    have hx2 := le_mul x p hx0 hp0
    have hx3 : 0 ≤ x * p := by omega
    by_cases hlt : x * p < n
    · obtain ⟨g1, g2, g3, g4⟩ := part_step n p x hp0 hlt
      have G1 := Lib.hid g1
      have G2 := Lib.hid g2
      clear g1 g2
      go_wp2
      go_round
      case rel => exact ⟨_, rfl, by omega, G1.out⟩
      case measure => simp only [intOf]; have := G2.out; simp; omega
    · have hf := Lib.hid (part_fin n p x hp0 (by omega) hx1)
      go_wp2
      go_ret
      exact ⟨ret_int hf.out, rfl⟩

set_option maxHeartbeats 400000 in
theorem numbers (A : Option Addr) (n c : Nat) (xs : List Int) (w : World) (hr : Rd .i64 w A n xs) :
    Calls Try.prog 25 #[.slice A n c] w fun e w' => e = .returned (.bool (okAll xs)) ∧ w = w' := by
  obtain ⟨hl, hn, hc⟩ := hr
  have HL := Lib.hid hl
  have HC := Lib.hid hc
  clear hl hc
  go_enter Try.func25, Try.ntmps25
  go_wp2
  go_loop [3] (fun i => ∃ k : Nat, k ≤ n ∧ i = .int .i64 k ∧ Hid (okAll (xs.take k) = true)) (fun i => n - (intOf i).toNat)
  case atStart => exact ⟨0, by omega, rfl, rfl⟩
  case round =>
    obtain ⟨k, hk, rfl, ho⟩ := hrel
    by_cases hlt : k < n
    · obtain ⟨ad, rfl, hcell⟩ := HC.out (by omega)
      have hck := hcell k hlt
      have hst := Lib.hid (okAll_snoc xs k (by rw [HL.out]; exact hlt))
      have hnt := Lib.hid (okAll_not xs k (by rw [HL.out]; exact hlt))
      clear hcell
      by_cases hi : inB (rdI xs k) 0 1073741824 = true
      · have hb := inB_t hi
        obtain ⟨hb0, hb1⟩ := hb
        have HI := Lib.hid hi
        clear hi
        go_wp2
        go_round
        case rel => exact ⟨k + 1, by omega, by go_num, by show okAll _ = true; rw [hst.out, ho.out, HI.out]; rfl⟩
        case measure => simp [intOf]; omega
      · have hi' : inB (rdI xs k) 0 1073741824 = false := by simpa using hi
        have hb := inB_f hi'
        have HI := Lib.hid hi'
        clear hi hi'
        by_cases h0 : rdI xs k < 0
        all_goals
          go_wp2
          go_ret
          exact ⟨ret_bool (by rw [hnt.out HI.out]), rfl⟩
    · go_wp2
      go_ret
      exact ⟨ret_bool (by have := ho.out; rw [List.take_of_length_le (by rw [HL.out]; omega)] at this; rw [this]), rfl⟩

set_option maxHeartbeats 400000 in
theorem rmay (b p m : Int) (w : World) :
    Calls Try.prog 24 #[.agg #[.int .i64 b, .int .i64 p, .int .i64 m]] w fun e w' => e = .returned (.bool (mayB b p m)) ∧ Below w.heap.size w w' := by
  have hu23 := Try.underlying23
  go_enter Try.func24, Try.ntmps24
  go_wp2
  all_goals
    go_ret
    exact ⟨ret_bool (by rw [Bool.eq_iff_iff]; simp [mayB, inB]; try omega), (by repeat (first | exact Below.refl _ _ | assumption | refine Below.drew ?_ | refine below_dN ?_ _ | refine Below.setCell ?_ (by first | omega | (simp; done) | (simp; omega)) _ | refine below_al ?_ (by first | omega | (simp; done) | (simp; omega)) _ | refine below_tr (by assumption) ?_ (by first | omega | (simp; done) | (simp; omega))))⟩
set_option maxHeartbeats 400000 in
theorem rcheck (b p m : Int) (A : Option Addr) (n c : Nat) (xs : List Int) (w : World) (hr : Rd .i64 w A n xs) :
    Calls Try.prog 10 #[.agg #[.int .i64 b, .int .i64 p, .int .i64 m], .slice A n c] w fun e w' => e = .returned (.int .i64 (checkF b p m xs)) ∧ Below w.heap.size w w' := by
  have hu23 := Try.underlying23
  have HR := Lib.hid hr
  have HL := Lib.hid hr.1
  clear hr
  go_enter Try.func10, Try.ntmps10
  go_wp2_with fail
  refine (rmay _ _ _ _).mono ?_
  rintro e w1 ⟨rfl, hb1⟩
  obtain ⟨hc1, hf1⟩ := bcell hb1
  go_wp2_with fail
  · go_ret
    exact ⟨ret_int (by unfold checkF; rw [if_neg (by simpa using ‹(!mayB b p m) = true›)]), (by repeat (first | exact Below.refl _ _ | assumption | refine Below.drew ?_ | refine below_dN ?_ _ | refine Below.setCell ?_ (by first | omega | (simp; done) | (simp; omega)) _ | refine below_al ?_ (by first | omega | (simp; done) | (simp; omega)) _ | refine below_tr (by assumption) ?_ (by first | omega | (simp; done) | (simp; omega))))⟩
  · refine (numbers _ _ _ _ _ (Rd.below HR.out (by repeat (first | exact Below.refl _ _ | assumption | refine Below.drew ?_ | refine below_dN ?_ _ | refine Below.setCell ?_ (by first | omega | (simp; done) | (simp; omega)) _ | refine below_al ?_ (by first | omega | (simp; done) | (simp; omega)) _ | refine below_tr (by assumption) ?_ (by first | omega | (simp; done) | (simp; omega)))))).mono ?_
    rintro e w2 ⟨rfl, rfl⟩
    go_wp2
    all_goals go_ret
    · exact ⟨ret_int (by unfold checkF; rw [if_pos (by simpa using ‹(!mayB b p m) = false›), if_neg (by rintro ⟨_, h⟩; simp_all)]), (by repeat (first | exact Below.refl _ _ | assumption | refine Below.drew ?_ | refine below_dN ?_ _ | refine Below.setCell ?_ (by first | omega | (simp; done) | (simp; omega)) _ | refine below_al ?_ (by first | omega | (simp; done) | (simp; omega)) _ | refine below_tr (by assumption) ?_ (by first | omega | (simp; done) | (simp; omega))))⟩
    · exact ⟨ret_int (by unfold checkF; rw [if_pos (by simpa using ‹(!mayB b p m) = false›), if_pos ⟨by rw [HL.out]; assumption, by simpa using ‹(!okAll xs) = false›⟩]), (by repeat (first | exact Below.refl _ _ | assumption | refine Below.drew ?_ | refine below_dN ?_ _ | refine Below.setCell ?_ (by first | omega | (simp; done) | (simp; omega)) _ | refine below_al ?_ (by first | omega | (simp; done) | (simp; omega)) _ | refine below_tr (by assumption) ?_ (by first | omega | (simp; done) | (simp; omega))))⟩
  · go_ret
    exact ⟨ret_int (by unfold checkF; rw [if_pos (by simpa using ‹(!mayB b p m) = false›), if_neg (by rw [HL.out]; exact fun h => ‹¬ _› h.1)]), (by repeat (first | exact Below.refl _ _ | assumption | refine Below.drew ?_ | refine below_dN ?_ _ | refine Below.setCell ?_ (by first | omega | (simp; done) | (simp; omega)) _ | refine below_al ?_ (by first | omega | (simp; done) | (simp; omega)) _ | refine below_tr (by assumption) ?_ (by first | omega | (simp; done) | (simp; omega))))⟩
