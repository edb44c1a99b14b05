/- The exported functions of layer 12, and the reference's. -/
import Derived.Test.YtnmnoibkcnlbkaaI
namespace Go.Proofs.Ytnmnoibkcnlbkaa.C
open Go.RowKit
set_option linter.unusedVariables false
set_option linter.unusedSimpArgs false
attribute [local go_sem high] max2_mx min2_mn max_two min_two
attribute [local go_sem ↓] Go.wp_at_zero Go.wp_at_succ

set_option maxHeartbeats 4000000 in
theorem ptimeout_t (c s p m k : Int) (w : World) (hm : MayB c s p m k = true) : Calls Try.prog 22 #[.agg #[.int .i64 c, .int .i64 s, .int .i64 p, .int .i64 m, .int .i64 k]] w (Win m (mx (c / 2) (4 * m)) 0 m k 0 w) := by
  have hu24 := Try.underlying24
  have hu49 := Try.underlying49
  obtain ⟨q0, q1, q2, q3, q4, q5, q6, q7, q8, q9⟩ := MayB_t hm
  go_enter Try.func22, Try.ntmps22
  go_wp2_with fail
  refine (changed_timeout c s p m k _ _ _ _ hm (fun w1 g hb hx => timeout1 g c s p m k w1 hx (by omega) (by omega) (by omega) (by omega))).mono ?_
  rintro e w1 ⟨rfl, hb1⟩
  have hB1 : Below w.heap.size w w1 := (by repeat (first | with_reducible exact Below.refl _ _ | with_reducible assumption | with_reducible refine Below.drew ?_ | with_reducible refine below_dN ?_ _ | with_reducible refine Below.setCell ?_ (by first | omega | (simp; done) | (simp; omega)) _ | with_reducible refine below_al ?_ (by first | omega | (simp; done) | (simp; omega)) _ | exact Below.refl _ _ | assumption | refine Below.drew ?_ | refine below_dN ?_ _ | refine Below.setCell ?_ (by first | omega | (simp; done) | (simp; omega)) _ | refine below_al ?_ (by first | omega | (simp; done) | (simp; omega)) _ | refine below_tr (by assumption) ?_ (by first | omega | (simp; done) | (simp; omega))))
  have z1 : w.heap.size + 1 < w1.heap.size := by have := hb1.size; simp at this; omega
  have hrs := (hb1.block (w.heap.size + 1) (by simp)).trans (alloc_top w _ _)
  clear hb1
  obtain ⟨⟨y0, y1, y2, y3, y4⟩, yf⟩ := five hrs
  have yf0 := yf 0
  have yf1 := yf 1
  have yf2 := yf 2
  have yf3 := yf 3
  have yf4 := yf 4
  clear hrs yf
  go_wp2
  exact bodyPost_ret (v := .tuple #[.agg #[.int .i64 m, .int .i64 (mx (c / 2) (4 * m)), .int .i64 0, .int .i64 m, .int .i64 k], .int .i64 0]) (by simp [results, Try.results22, go_sem, y0, y1, y2, y3, y4]) rfl ⟨rfl, by (repeat (refine Below.setCell ?_ (by first | omega | (simp; done) | (simp; omega)) _)); exact hB1⟩
set_option maxHeartbeats 4000000 in
theorem ptimeout_f (c s p m k : Int) (w : World) (hm : MayB c s p m k = false) : Calls Try.prog 22 #[.agg #[.int .i64 c, .int .i64 s, .int .i64 p, .int .i64 m, .int .i64 k]] w (Win 0 0 0 0 0 120 w) := by
  have hu24 := Try.underlying24
  have hu49 := Try.underlying49
  go_enter Try.func22, Try.ntmps22
  go_wp2_with fail
  refine (changed_no _ c s p m k _ hm).mono ?_
  rintro e w1 ⟨rfl, hb1⟩
  have hB1 : Below w.heap.size w w1 := (by repeat (first | with_reducible exact Below.refl _ _ | with_reducible assumption | with_reducible refine Below.drew ?_ | with_reducible refine below_dN ?_ _ | with_reducible refine Below.setCell ?_ (by first | omega | (simp; done) | (simp; omega)) _ | with_reducible refine below_al ?_ (by first | omega | (simp; done) | (simp; omega)) _ | exact Below.refl _ _ | assumption | refine Below.drew ?_ | refine below_dN ?_ _ | refine Below.setCell ?_ (by first | omega | (simp; done) | (simp; omega)) _ | refine below_al ?_ (by first | omega | (simp; done) | (simp; omega)) _ | refine below_tr (by assumption) ?_ (by first | omega | (simp; done) | (simp; omega))))
  have z1 : w.heap.size + 1 < w1.heap.size := by have := hb1.size; simp at this; omega
  have hrs := (hb1.block (w.heap.size + 1) (by simp)).trans (alloc_top w _ _)
  clear hb1
  obtain ⟨⟨y0, y1, y2, y3, y4⟩, yf⟩ := five hrs
  have yf0 := yf 0
  have yf1 := yf 1
  have yf2 := yf 2
  have yf3 := yf 3
  have yf4 := yf 4
  clear hrs yf
  go_wp2
  exact bodyPost_ret (v := .tuple #[.agg #[.int .i64 0, .int .i64 0, .int .i64 0, .int .i64 0, .int .i64 0], .int .i64 120]) (by simp [results, Try.results22, go_sem, y0, y1, y2, y3, y4]) rfl ⟨rfl, by (repeat (refine Below.setCell ?_ (by first | omega | (simp; done) | (simp; omega)) _)); exact hB1⟩
set_option maxHeartbeats 4000000 in
theorem rtimeout_t (c s p m k : Int) (w : World) (hm : MayB c s p m k = true) : Calls Try.prog 23 #[.agg #[.int .i64 c, .int .i64 s, .int .i64 p, .int .i64 m, .int .i64 k]] w (Win m (mx (c / 2) (4 * m)) 0 m k 0 w) := by
  have hu24 := Try.underlying24
  have hu49 := Try.underlying49
  obtain ⟨q0, q1, q2, q3, q4, q5, q6, q7, q8, q9⟩ := MayB_t hm
  go_enter Try.func23, Try.ntmps23
  go_wp2_with fail
  refine (rmay c s p m k _).mono ?_
  rw [hm]
  rintro e w1 ⟨rfl, hb1⟩
  have hB1 : Below w.heap.size w w1 := (by repeat (first | with_reducible exact Below.refl _ _ | with_reducible assumption | with_reducible refine Below.drew ?_ | with_reducible refine below_dN ?_ _ | with_reducible refine Below.setCell ?_ (by first | omega | (simp; done) | (simp; omega)) _ | with_reducible refine below_al ?_ (by first | omega | (simp; done) | (simp; omega)) _ | exact Below.refl _ _ | assumption | refine Below.drew ?_ | refine below_dN ?_ _ | refine Below.setCell ?_ (by first | omega | (simp; done) | (simp; omega)) _ | refine below_al ?_ (by first | omega | (simp; done) | (simp; omega)) _ | refine below_tr (by assumption) ?_ (by first | omega | (simp; done) | (simp; omega))))
  have z1 : w.heap.size + 1 < w1.heap.size := by have := hb1.size; simp at this; omega
  have hrs := (hb1.block (w.heap.size + 1) (by simp)).trans (alloc_top w _ _)
  have hrs0 := (hb1.block w.heap.size (by simp; omega)).trans (alloc_bot w _ _)
  obtain ⟨⟨x0, x1, x2, x3, x4⟩, xf⟩ := five hrs0
  have xf0 := xf 0
  have xf1 := xf 1
  have xf2 := xf 2
  clear hrs0 xf
  clear hb1
  obtain ⟨⟨y0, y1, y2, y3, y4⟩, yf⟩ := five hrs
  have yf0 := yf 0
  have yf1 := yf 1
  have yf2 := yf 2
  have yf3 := yf 3
  have yf4 := yf 4
  clear hrs yf
  go_wp2
  exact bodyPost_ret (v := .tuple #[.agg #[.int .i64 m, .int .i64 (mx (c / 2) (4 * m)), .int .i64 0, .int .i64 m, .int .i64 k], .int .i64 0]) (by simp [results, Try.results23, go_sem, y0, y1, y2, y3, y4]) rfl ⟨rfl, by (repeat (refine Below.setCell ?_ (by first | omega | (simp; done) | (simp; omega)) _)); exact hB1⟩
set_option maxHeartbeats 4000000 in
theorem rtimeout_f (c s p m k : Int) (w : World) (hm : MayB c s p m k = false) : Calls Try.prog 23 #[.agg #[.int .i64 c, .int .i64 s, .int .i64 p, .int .i64 m, .int .i64 k]] w (Win 0 0 0 0 0 120 w) := by
  have hu24 := Try.underlying24
  have hu49 := Try.underlying49
  go_enter Try.func23, Try.ntmps23
  go_wp2_with fail
  refine (rmay c s p m k _).mono ?_
  rw [hm]
  rintro e w1 ⟨rfl, hb1⟩
  have hB1 : Below w.heap.size w w1 := (by repeat (first | with_reducible exact Below.refl _ _ | with_reducible assumption | with_reducible refine Below.drew ?_ | with_reducible refine below_dN ?_ _ | with_reducible refine Below.setCell ?_ (by first | omega | (simp; done) | (simp; omega)) _ | with_reducible refine below_al ?_ (by first | omega | (simp; done) | (simp; omega)) _ | exact Below.refl _ _ | assumption | refine Below.drew ?_ | refine below_dN ?_ _ | refine Below.setCell ?_ (by first | omega | (simp; done) | (simp; omega)) _ | refine below_al ?_ (by first | omega | (simp; done) | (simp; omega)) _ | refine below_tr (by assumption) ?_ (by first | omega | (simp; done) | (simp; omega))))
  have z1 : w.heap.size + 1 < w1.heap.size := by have := hb1.size; simp at this; omega
  have hrs := (hb1.block (w.heap.size + 1) (by simp)).trans (alloc_top w _ _)
  clear hb1
  obtain ⟨⟨y0, y1, y2, y3, y4⟩, yf⟩ := five hrs
  have yf0 := yf 0
  have yf1 := yf 1
  have yf2 := yf 2
  have yf3 := yf 3
  have yf4 := yf 4
  clear hrs yf
  go_wp2
  exact bodyPost_ret (v := .tuple #[.agg #[.int .i64 0, .int .i64 0, .int .i64 0, .int .i64 0, .int .i64 0], .int .i64 120]) (by simp [results, Try.results23, go_sem, y0, y1, y2, y3, y4]) rfl ⟨rfl, by (repeat (refine Below.setCell ?_ (by first | omega | (simp; done) | (simp; omega)) _)); exact hB1⟩
