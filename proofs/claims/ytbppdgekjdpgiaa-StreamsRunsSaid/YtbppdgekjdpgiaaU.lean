/- Layer 16: a queue that nobody made. -/
import Derived.Test.YtbppdgekjdpgiaaT
namespace Go.Proofs.Ytbppdgekjdpgiaa.C
open Go.RowKit
set_option linter.unusedVariables false
set_option linter.unusedSimpArgs false
attribute [local go_sem high] max2_mx min2_mn max_two min_two
attribute [local go_sem ↓] Go.wp_at_zero Go.wp_at_succ

/-- nobody made it: whatever is done beside it -/
def NoB (v : Value) (w : World) : Prop := ∀ w', Below w.heap.size w w' → Calls Try.prog 21 #[v] w' fun e w'' => e = .returned (.bool false) ∧ w' = w''
set_option maxHeartbeats 400000 in
theorem nob_nil (w : World) : NoB (.pointer none) w := by
  intro w' _
  go_enter Try.func21, Try.ntmps21
  go_wp2
  go_ret
  exact ⟨rfl, rfl⟩
set_option maxHeartbeats 400000 in
theorem nob_zero (g : Nat) (w : World) (h : w.cell? ⟨g, 0, none⟩ = some (.slice none 0 0)) : NoB (.pointer (some ⟨g, 0, none⟩)) w := by
  intro w' hb
  have c0 : w'.cell? ⟨g, 0, none⟩ = some (.slice none 0 0) := (hb.cell (World.block_lt_of_cell? w _ h)).trans h
  have hne := fun (W : World) => run_neq_slice_nil_any (P := Try.prog) W 56 67 none 0 0 0 0 Try.underlying56
  clear h
  go_enter Try.func21, Try.ntmps21
  go_wp2
  go_ret
  exact ⟨rfl, rfl⟩
set_option maxHeartbeats 400000 in
theorem nob_13 (v : Value) (w : World) (h : NoB v w) : Calls Try.prog 13 #[v] w fun e w' => e = .returned (.int .i64 0) ∧ w = w' := by
  have H := Lib.hid (h w (Below.refl _ _))
  clear h
  go_enter Try.func13, Try.ntmps13
  go_wp2_with fail
  refine Calls.mono H.out ?_
  rintro e w' ⟨rfl, rfl⟩
  go_wp2
  go_ret
  exact ⟨rfl, rfl⟩
set_option maxHeartbeats 400000 in
theorem nob_17 (v : Value) (w : World) (h : NoB v w) : Calls Try.prog 17 #[v] w fun e w' => e = .returned (.int .i64 0) ∧ w = w' := by
  have H := Lib.hid (h w (Below.refl _ _))
  clear h
  go_enter Try.func17, Try.ntmps17
  go_wp2_with fail
  refine Calls.mono H.out ?_
  rintro e w' ⟨rfl, rfl⟩
  go_wp2
  go_ret
  exact ⟨rfl, rfl⟩
set_option maxHeartbeats 400000 in
theorem nob_11 (v : Value) (s proto : Int) (un : Bool) (A : Option Addr) (n c : Nat) (w : World) (h : NoB v w) : Calls Try.prog 11 #[v, .int .u16 s, .int .u32 proto, .bool un, .slice A n c] w fun e w' => e = .returned (.int .i64 4) ∧ w = w' := by
  have H := Lib.hid (h w (Below.refl _ _))
  clear h
  go_enter Try.func11, Try.ntmps11
  go_wp2_with fail
  refine Calls.mono H.out ?_
  rintro e w' ⟨rfl, rfl⟩
  go_wp2
  go_ret
  exact ⟨rfl, rfl⟩
set_option maxHeartbeats 400000 in
theorem nob_16 (v : Value) (x : Int) (w : World) (h : NoB v w) : Calls Try.prog 16 #[v, .int .i64 x] w fun e w' => e = .returned (.int .i64 4) ∧ w = w' := by
  have H := Lib.hid (h w (Below.refl _ _))
  clear h
  go_enter Try.func16, Try.ntmps16
  go_wp2_with fail
  refine Calls.mono H.out ?_
  rintro e w' ⟨rfl, rfl⟩
  go_wp2
  go_ret
  exact ⟨rfl, rfl⟩
set_option maxHeartbeats 400000 in
theorem nob_15 (v : Value) (w : World) (h : NoB v w) : Calls Try.prog 15 #[v] w fun e w' => e = .returned (.tuple #[.int .u16 0, .int .i64 0, .bool false]) ∧ w = w' := by
  have H := Lib.hid (h w (Below.refl _ _))
  clear h
  go_enter Try.func15, Try.ntmps15
  go_wp2_with fail
  refine Calls.mono H.out ?_
  rintro e w' ⟨rfl, rfl⟩
  go_wp2
  go_ret3
  exact ⟨rfl, rfl⟩
set_option maxHeartbeats 400000 in
theorem nob_20 (v : Value) (s : Int) (w : World) (h : NoB v w) : Calls Try.prog 20 #[v, .int .u16 s] w fun e w' => e = .returned (.int .i64 0) ∧ w = w' := by
  have H := Lib.hid (h w (Below.refl _ _))
  clear h
  go_enter Try.func20, Try.ntmps20
  go_wp2_with fail
  refine Calls.mono H.out ?_
  rintro e w' ⟨rfl, rfl⟩
  go_wp2
  go_ret
  exact ⟨rfl, rfl⟩
set_option maxHeartbeats 400000 in
theorem nob_14 (v : Value) (w : World) (h : NoB v w) : Calls Try.prog 14 #[v] w fun e w' => e = .returned (.int .i64 0) ∧ w = w' := by
  have H := Lib.hid h
  clear h
  go_enter Try.func14, Try.ntmps14
  go_wp2_with fail
  refine (nob_13 v _ H.out).mono ?_
  rintro e w' ⟨rfl, rfl⟩
  go_wp2_with fail
  refine (nob_17 v _ H.out).mono ?_
  rintro e w' ⟨rfl, rfl⟩
  go_wp2
  go_ret
  exact ⟨rfl, rfl⟩
set_option maxHeartbeats 1000000 in
theorem nob_12 (v : Value) (x : Int) (w : World) (h : NoB v w) : Calls Try.prog 12 #[v, .int .i64 x] w fun e w' => e = .returned (.tuple #[noPart, .bool false]) ∧ Below w.heap.size w w' := by
  have hu36 := Try.underlying36
  have hu34 := Try.underlying34
  have H := Lib.hid (h (w.alloc (.cells #[.int .u16 0, .int .u16 0, .int .u32 0, .bool false, .slice none 0 0, .bool false, .bool false] 36)) ((Below.refl _ _).alloc (Nat.le_refl _) _))
  clear h
  go_enter Try.func12, Try.ntmps12
  go_wp2_with fail
  refine Calls.mono H.out ?_
  rintro e w' ⟨rfl, rfl⟩
  go_wp2
  exact bodyPost_ret (v := .tuple #[noPart, .bool false]) (by simp [results, Try.results12, go_sem, noPart, part]) rfl ⟨rfl, (by repeat (first | with_reducible exact Below.refl _ _ | with_reducible assumption | with_reducible refine Below.drew ?_ | with_reducible refine below_dN ?_ _ | with_reducible refine Below.setCell ?_ (by first | omega | (simp; done) | (simp; omega)) _ | with_reducible refine below_al ?_ (by first | omega | (simp; done) | (simp; omega)) _ | exact Below.refl _ _ | assumption | refine Below.drew ?_ | refine below_dN ?_ _ | refine Below.setCell ?_ (by first | omega | (simp; done) | (simp; omega)) _ | refine below_al ?_ (by first | omega | (simp; done) | (simp; omega)) _ | refine below_tr (by assumption) ?_ (by first | omega | (simp; done) | (simp; omega)) | fail))⟩
