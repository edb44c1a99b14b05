/- The exported functions of layer 12, and the reference's. -/
import Derived.Test.YtnmnoibkcnlbkaaH
namespace Go.Proofs.Ytnmnoibkcnlbkaa.C
open Go.RowKit
set_option linter.unusedVariables false
set_option linter.unusedSimpArgs false
attribute [local go_sem high] max2_mx min2_mn max_two min_two
attribute [local go_sem ↓] Go.wp_at_zero Go.wp_at_succ

/-- a window and an error are told -/
def Win (c s p m k er : Int) (w : World) (e : Ending) (w' : World) : Prop := e = .returned (.tuple #[.agg #[.int .i64 c, .int .i64 s, .int .i64 p, .int .i64 m, .int .i64 k], .int .i64 er]) ∧ Below w.heap.size w w'
set_option maxHeartbeats 4000000 in
theorem rmay (c s p m k : Int) (w : World) : Calls Try.prog 15 #[.agg #[.int .i64 c, .int .i64 s, .int .i64 p, .int .i64 m, .int .i64 k]] w fun e w' => e = .returned (.bool (MayB c s p m k)) ∧ Below w.heap.size w w' := by
  have hu24 := Try.underlying24
  cases hm : inB m 100 1500
  · have hb : MayB c s p m k = false := by simp [MayB, hm]
    have hx := inB_f hm
    rw [hb]
    go_enter Try.func15, Try.ntmps15
    go_wp2
    all_goals first
      | (go_ret; exact ⟨rfl, (by repeat (first | exact Below.refl _ _ | assumption | refine Below.drew ?_ | refine below_dN ?_ _ | refine Below.setCell ?_ (by first | omega | (simp; done) | (simp; omega)) _ | refine below_al ?_ (by first | omega | (simp; done) | (simp; omega)) _ | refine below_tr (by assumption) ?_ (by first | omega | (simp; done) | (simp; omega))))⟩)
      | omega
  · obtain ⟨m0, m1⟩ := inB_t hm
    go_enter Try.func15, Try.ntmps15
    go_wp2
    all_goals
      go_ret
      exact ⟨ret_bool (by rw [Bool.eq_iff_iff]; simp [MayB, inB]; omega), (by repeat (first | exact Below.refl _ _ | assumption | refine Below.drew ?_ | refine below_dN ?_ _ | refine Below.setCell ?_ (by first | omega | (simp; done) | (simp; omega)) _ | refine below_al ?_ (by first | omega | (simp; done) | (simp; omega)) _ | refine below_tr (by assumption) ?_ (by first | omega | (simp; done) | (simp; omega))))⟩
def chkV (c s p m k : Int) : Int := if MayB c s p m k = true then 0 else 120
set_option maxHeartbeats 1000000 in
theorem check (c s p m k : Int) (w : World) : Calls Try.prog 16 #[.agg #[.int .i64 c, .int .i64 s, .int .i64 p, .int .i64 m, .int .i64 k]] w fun e w' => e = .returned (.int .i64 (chkV c s p m k)) ∧ Below w.heap.size w w' := by
  have hu24 := Try.underlying24
  have hu49 := Try.underlying49
  go_enter Try.func16, Try.ntmps16
  go_wp2_with (go_at_call 34; refine (pmay _ _ _ _ _ _).mono ?_; rintro e w' ⟨rfl, hbn⟩)
  all_goals
    go_ret
    exact ⟨ret_int (by unfold chkV; simp_all), (by repeat (first | exact Below.refl _ _ | assumption | refine Below.drew ?_ | refine below_dN ?_ _ | refine Below.setCell ?_ (by first | omega | (simp; done) | (simp; omega)) _ | refine below_al ?_ (by first | omega | (simp; done) | (simp; omega)) _ | refine below_tr (by assumption) ?_ (by first | omega | (simp; done) | (simp; omega))))⟩
set_option maxHeartbeats 1000000 in
theorem rcheck (c s p m k : Int) (w : World) : Calls Try.prog 17 #[.agg #[.int .i64 c, .int .i64 s, .int .i64 p, .int .i64 m, .int .i64 k]] w fun e w' => e = .returned (.int .i64 (chkV c s p m k)) ∧ Below w.heap.size w w' := by
  have hu24 := Try.underlying24
  go_enter Try.func17, Try.ntmps17
  go_wp2_with (go_at_call 15; refine (rmay _ _ _ _ _ _).mono ?_; rintro e w' ⟨rfl, hbn⟩)
  all_goals
    go_ret
    exact ⟨ret_int (by unfold chkV; simp_all), (by repeat (first | exact Below.refl _ _ | assumption | refine Below.drew ?_ | refine below_dN ?_ _ | refine Below.setCell ?_ (by first | omega | (simp; done) | (simp; omega)) _ | refine below_al ?_ (by first | omega | (simp; done) | (simp; omega)) _ | refine below_tr (by assumption) ?_ (by first | omega | (simp; done) | (simp; omega))))⟩
theorem alloc_top (w : World) (A B : Obj) : ((w.alloc A).alloc B).heap[w.heap.size + 1]? = some B := by
  have h := heap_alloc_new (w.alloc A) B
  have e : (w.alloc A).heap.size = w.heap.size + 1 := by simp
  rwa [e] at h
theorem alloc_bot (w : World) (A B : Obj) : ((w.alloc A).alloc B).heap[w.heap.size]? = some A := by
  have h := heap_alloc_new w A
  have hb : Below (w.heap.size + 1) (w.alloc A) ((w.alloc A).alloc B) := (Below.refl _ _).alloc (by simp) _
  rw [hb.block _ (by omega)]
  exact h
set_option maxHeartbeats 1000000 in
theorem changed_no (F : Value) (c s p m k : Int) (w : World) (hm : MayB c s p m k = false) : Calls Try.prog 28 #[.agg #[.int .i64 c, .int .i64 s, .int .i64 p, .int .i64 m, .int .i64 k], F] w (Win 0 0 0 0 0 120 w) := by
  have hu24 := Try.underlying24
  have hu49 := Try.underlying49
  go_enter Try.func28, Try.ntmps28
  go_wp2_with fail
  refine (pmay _ _ _ _ _ _).mono ?_
  rw [hm]
  rintro e w1 ⟨rfl, hb1⟩
  have hB1 : Below w.heap.size w w1 := (by repeat (first | exact Below.refl _ _ | assumption | refine Below.drew ?_ | refine below_dN ?_ _ | refine Below.setCell ?_ (by first | omega | (simp; done) | (simp; omega)) _ | refine below_al ?_ (by first | omega | (simp; done) | (simp; omega)) _ | refine below_tr (by assumption) ?_ (by first | omega | (simp; done) | (simp; omega))))
  have z1 : w.heap.size + 2 < w1.heap.size := by have := hb1.size; simp at this; omega
  have hrs := (hb1.block (w.heap.size + 1) (by simp)).trans (alloc_mid w _ _ _)
  clear hb1
  obtain ⟨⟨y0, y1, y2, y3, y4⟩, yf⟩ := five hrs
  have yf0 := yf 0
  have yf1 := yf 1
  have yf2 := yf 2
  have yf3 := yf 3
  have yf4 := yf 4
  clear hrs yf
  go_wp2
  exact bodyPost_ret (v := .tuple #[.agg #[.int .i64 0, .int .i64 0, .int .i64 0, .int .i64 0, .int .i64 0], .int .i64 120]) (by simp [results, Try.results28, go_sem, y0, y1, y2, y3, y4]) rfl ⟨rfl, (by repeat (first | exact Below.refl _ _ | assumption | refine Below.drew ?_ | refine below_dN ?_ _ | refine Below.setCell ?_ (by first | omega | (simp; done) | (simp; omega)) _ | refine below_al ?_ (by first | omega | (simp; done) | (simp; omega)) _ | refine below_tr (by assumption) ?_ (by first | omega | (simp; done) | (simp; omega))))⟩
