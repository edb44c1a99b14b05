/- Contracts of layer 1's functions: each call computes a plain number, the world is left alone. -/
import Derived.Test.YtgfokkjjaakenaaK
namespace Go.Proofs.Ytgfokkjjaakenaa.C
open Go.RowKit

/-- the distance from a to b among m numbers, as a signed number -/
def sd (m a b : Int) : Int := if (b - a) % m ≥ m / 2 then (b - a) % m - m else (b - a) % m

theorem not0_32 : bits BinOp.xor IntKind.u32 (if IntKind.u32.signed = true then -1 else IntKind.u32.max) 0 = 4294967295 := by decide +kernel
theorem not0_16 : bits BinOp.xor IntKind.u16 (if IntKind.u16.signed = true then -1 else IntKind.u16.max) 0 = 65535 := by decide +kernel


set_option maxHeartbeats 400000 in
theorem off32 (a b : Int) (w : World) :
    Calls Try.prog 28 #[.int .u32 a, .int .u32 b] w fun e w' => e = .returned (.int .i64 (sd 4294967296 a b)) ∧ w = w' := by
  have hx := not0_32
  go_enter Try.func28, Try.ntmps28
  go_wp2
  all_goals go_ret
  · exact ⟨ret_int (by unfold sd; omega), rfl⟩
  · exact ⟨ret_int (by unfold sd; omega), rfl⟩

theorem wu16 (x : Int) : IntKind.u16.wrap x = x % 65536 := by
  simp [IntKind.wrap, IntKind.signed, IntKind.bits]
theorem tmod_m (x m : Int) : (0 ≤ x → x.tmod m = x % m) ∧ (x < 0 → x.tmod m = - ((-x) % m)) := by
  refine ⟨fun h => Int.tmod_eq_emod_of_nonneg h, fun h => ?_⟩
  have := Int.neg_tmod (a := x) (b := m)
  rw [← Int.tmod_eq_emod_of_nonneg (a := -x) (b := m) (by omega), Int.neg_tmod]; omega

set_option maxHeartbeats 400000 in
theorem off16 (a b : Int) (w : World) :
    Calls Try.prog 30 #[.int .u16 a, .int .u16 b] w fun e w' => e = .returned (.int .i64 (sd 65536 a b)) ∧ w = w' := by
  have hx := not0_16
  go_enter Try.func30, Try.ntmps30
  go_wp2
  all_goals go_ret
  · exact ⟨ret_int (by rw [wu16] at *; unfold sd; unfold wrap64 at *; omega), rfl⟩
  · exact ⟨ret_int (by rw [wu16] at *; unfold sd; unfold wrap64 at *; omega), rfl⟩

set_option maxHeartbeats 400000 in
theorem less32 (a b : Int) (w : World) :
    Calls Try.prog 16 #[.int .u32 a, .int .u32 b] w fun e w' => e = .returned (.bool (decide (0 < sd 4294967296 a b))) ∧ w = w' := by
  go_enter Try.func16, Try.ntmps16
  go_wp2_with (go_at_call 28; refine (off32 _ _ _).mono ?_; rintro e w' ⟨rfl, rfl⟩)
  go_ret
  exact ⟨rfl, rfl⟩

set_option maxHeartbeats 400000 in
theorem rdiff32 (a b : Int) (w : World) (ha0 : 0 ≤ a) (ha : a ≤ 4294967295) (hb0 : 0 ≤ b) (hb : b ≤ 4294967295) :
    Calls Try.prog 29 #[.int .i64 a, .int .i64 b, .int .i64 4294967296] w fun e w' => e = .returned (.int .i64 (sd 4294967296 a b)) ∧ w = w' := by
  have ht := tmod_m (b - a) 4294967296
  have HT := Lib.hid ht
  clear ht
  go_enter Try.func29, Try.ntmps29
  go_wp2
  all_goals
    go_ret
    have h1 := HT.out.1
    have h2 := HT.out.2
    exact ⟨ret_int (by unfold sd; (try unfold wrap64 at *); omega), rfl⟩
set_option maxHeartbeats 400000 in
theorem rdiff16 (a b : Int) (w : World) (ha0 : 0 ≤ a) (ha : a ≤ 65535) (hb0 : 0 ≤ b) (hb : b ≤ 65535) :
    Calls Try.prog 29 #[.int .i64 a, .int .i64 b, .int .i64 65536] w fun e w' => e = .returned (.int .i64 (sd 65536 a b)) ∧ w = w' := by
  have ht := tmod_m (b - a) 65536
  have HT := Lib.hid ht
  clear ht
  go_enter Try.func29, Try.ntmps29
  go_wp2
  all_goals
    go_ret
    have h1 := HT.out.1
    have h2 := HT.out.2
    exact ⟨ret_int (by unfold sd; (try unfold wrap64 at *); omega), rfl⟩

theorem sd32_range (a b : Int) : -2147483648 ≤ sd 4294967296 a b ∧ sd 4294967296 a b ≤ 2147483647 := by unfold sd; omega
theorem sd16_range (a b : Int) : -32768 ≤ sd 65536 a b ∧ sd 65536 a b ≤ 32767 := by unfold sd; omega

set_option maxHeartbeats 400000 in
theorem less16 (a b : Int) (w : World) :
    Calls Try.prog 22 #[.int .u16 a, .int .u16 b] w fun e w' => e = .returned (.bool (decide (0 < sd 65536 a b))) ∧ w = w' := by
  go_enter Try.func22, Try.ntmps22
  go_wp2_with (go_at_call 30; refine (off16 _ _ _).mono ?_; rintro e w' ⟨rfl, rfl⟩)
  go_ret
  exact ⟨rfl, rfl⟩
set_option maxHeartbeats 400000 in
theorem diff32 (a b : Int) (w : World) :
    Calls Try.prog 18 #[.int .u32 a, .int .u32 b] w fun e w' => e = .returned (.int .i64 (sd 4294967296 a b)) ∧ w = w' := by
  go_enter Try.func18, Try.ntmps18
  go_wp2_with (go_at_call 28; refine (off32 _ _ _).mono ?_; rintro e w' ⟨rfl, rfl⟩)
  go_ret
  exact ⟨rfl, rfl⟩
set_option maxHeartbeats 400000 in
theorem diff16 (a b : Int) (w : World) :
    Calls Try.prog 24 #[.int .u16 a, .int .u16 b] w fun e w' => e = .returned (.int .i64 (sd 65536 a b)) ∧ w = w' := by
  go_enter Try.func24, Try.ntmps24
  go_wp2_with (go_at_call 30; refine (off16 _ _ _).mono ?_; rintro e w' ⟨rfl, rfl⟩)
  go_ret
  exact ⟨rfl, rfl⟩
set_option maxHeartbeats 400000 in
theorem Rdiff32 (a b : Int) (w : World) (ha0 : 0 ≤ a) (ha : a ≤ 4294967295) (hb0 : 0 ≤ b) (hb : b ≤ 4294967295) :
    Calls Try.prog 19 #[.int .u32 a, .int .u32 b] w fun e w' => e = .returned (.int .i64 (sd 4294967296 a b)) ∧ w = w' := by
  go_enter Try.func19, Try.ntmps19
  go_wp2_with (go_at_call 29; refine (rdiff32 _ _ _ (by omega) (by omega) (by omega) (by omega)).mono ?_; rintro e w' ⟨rfl, rfl⟩)
  go_ret
  exact ⟨rfl, rfl⟩
set_option maxHeartbeats 400000 in
theorem Rdiff16 (a b : Int) (w : World) (ha0 : 0 ≤ a) (ha : a ≤ 65535) (hb0 : 0 ≤ b) (hb : b ≤ 65535) :
    Calls Try.prog 25 #[.int .u16 a, .int .u16 b] w fun e w' => e = .returned (.int .i64 (sd 65536 a b)) ∧ w = w' := by
  go_enter Try.func25, Try.ntmps25
  go_wp2_with (go_at_call 29; refine (rdiff16 _ _ _ (by omega) (by omega) (by omega) (by omega)).mono ?_; rintro e w' ⟨rfl, rfl⟩)
  go_ret
  exact ⟨rfl, rfl⟩
set_option maxHeartbeats 400000 in
theorem Rless32 (a b : Int) (w : World) (ha0 : 0 ≤ a) (ha : a ≤ 4294967295) (hb0 : 0 ≤ b) (hb : b ≤ 4294967295) :
    Calls Try.prog 17 #[.int .u32 a, .int .u32 b] w fun e w' => e = .returned (.bool (decide (0 < sd 4294967296 a b))) ∧ w = w' := by
  go_enter Try.func17, Try.ntmps17
  go_wp2_with (go_at_call 19; refine (Rdiff32 _ _ _ (by omega) (by omega) (by omega) (by omega)).mono ?_; rintro e w' ⟨rfl, rfl⟩)
  go_ret
  exact ⟨rfl, rfl⟩
set_option maxHeartbeats 400000 in
theorem Rless16 (a b : Int) (w : World) (ha0 : 0 ≤ a) (ha : a ≤ 65535) (hb0 : 0 ≤ b) (hb : b ≤ 65535) :
    Calls Try.prog 23 #[.int .u16 a, .int .u16 b] w fun e w' => e = .returned (.bool (decide (0 < sd 65536 a b))) ∧ w = w' := by
  go_enter Try.func23, Try.ntmps23
  go_wp2_with (go_at_call 25; refine (Rdiff16 _ _ _ (by omega) (by omega) (by omega) (by omega)).mono ?_; rintro e w' ⟨rfl, rfl⟩)
  go_ret
  exact ⟨rfl, rfl⟩
set_option maxHeartbeats 400000 in
theorem add32 (a b : Int) (w : World) :
    Calls Try.prog 12 #[.int .u32 a, .int .u32 b] w fun e w' => e = .returned (.int .u32 ((a + b) % 4294967296)) ∧ w = w' := by
  go_enter Try.func12, Try.ntmps12
  go_wp2
  go_ret
  exact ⟨rfl, rfl⟩
set_option maxHeartbeats 400000 in
theorem add16 (a b : Int) (w : World) :
    Calls Try.prog 20 #[.int .u16 a, .int .u16 b] w fun e w' => e = .returned (.int .u16 ((a + b) % 65536)) ∧ w = w' := by
  go_enter Try.func20, Try.ntmps20
  go_wp2
  go_ret
  exact ⟨ret_int (by rw [wu16]), rfl⟩
set_option maxHeartbeats 400000 in
theorem Radd32 (a b : Int) (w : World) (ha0 : 0 ≤ a) (ha : a ≤ 4294967295) (hb0 : 0 ≤ b) (hb : b ≤ 4294967295) :
    Calls Try.prog 13 #[.int .u32 a, .int .u32 b] w fun e w' => e = .returned (.int .u32 ((a + b) % 4294967296)) ∧ w = w' := by
  go_enter Try.func13, Try.ntmps13
  go_wp2
  go_ret
  exact ⟨rfl, rfl⟩
set_option maxHeartbeats 400000 in
theorem Radd16 (a b : Int) (w : World) (ha0 : 0 ≤ a) (ha : a ≤ 65535) (hb0 : 0 ≤ b) (hb : b ≤ 65535) :
    Calls Try.prog 21 #[.int .u16 a, .int .u16 b] w fun e w' => e = .returned (.int .u16 ((a + b) % 65536)) ∧ w = w' := by
  go_enter Try.func21, Try.ntmps21
  go_wp2
  go_ret
  exact ⟨rfl, rfl⟩
