/- The exported functions of layer 12, and the reference's. -/
import Derived.Test.YtnmnoibkcnlbkaaN
import Derived.Test.YtnmnoibkcnlbkaaG
namespace Go.Proofs.Ytnmnoibkcnlbkaa.C
open Go.RowKit
set_option linter.unusedVariables false
set_option linter.unusedSimpArgs false
attribute [local go_sem high] max2_mx min2_mn max_two min_two
attribute [local go_sem ↓] Go.wp_at_zero Go.wp_at_succ

set_option maxHeartbeats 4000000 in
theorem pack_f (c s p m k n : Int) (full moved : Bool) (w : World) (hm : MayB c s p m k = false) : Calls Try.prog 10 #[.agg #[.int .i64 c, .int .i64 s, .int .i64 p, .int .i64 m, .int .i64 k], .int .i64 n, .bool full, .bool moved] w (Win 0 0 0 0 0 120 w) := by
  have hu24 := Try.underlying24
  have hu49 := Try.underlying49
  go_enter Try.func10, Try.ntmps10
  go_wp2_with fail
  refine (check_f c s p m k _ hm).mono ?_
  rintro e w1 ⟨rfl, hb1⟩
  have hB1 : Below w.heap.size w w1 := (by repeat (first | with_reducible exact Below.refl _ _ | with_reducible assumption | with_reducible refine Below.drew ?_ | with_reducible refine below_dN ?_ _ | with_reducible refine Below.setCell ?_ (by first | omega | (simp; done) | (simp; omega)) _ | with_reducible refine below_al ?_ (by first | omega | (simp; done) | (simp; omega)) _ | exact Below.refl _ _ | assumption | refine Below.drew ?_ | refine below_dN ?_ _ | refine Below.setCell ?_ (by first | omega | (simp; done) | (simp; omega)) _ | refine below_al ?_ (by first | omega | (simp; done) | (simp; omega)) _ | refine below_tr (by assumption) ?_ (by first | omega | (simp; done) | (simp; omega))))
  have z1 : w.heap.size + 1 + 1 + 1 + 1 < w1.heap.size := by have := hb1.size; simp at this; omega
  have hx := (hb1.block (w.heap.size) (by first | omega | (simp; done) | (simp; omega))).trans (show (((((w.alloc (.cells #[.int .i64 c, .int .i64 s, .int .i64 p, .int .i64 m, .int .i64 k] 24)).alloc (.cells #[.int .i64 n] 3)).alloc (.cells #[.bool full] 4)).alloc (.cells #[.bool moved] 4)).alloc (.cells #[.int .i64 0, .int .i64 0, .int .i64 0, .int .i64 0, .int .i64 0] 24)).heap[w.heap.size]? = some _ by rw [al_old _ _ _ (by first | omega | (simp; done) | (simp; omega)), al_old _ _ _ (by first | omega | (simp; done) | (simp; omega)), al_old _ _ _ (by first | omega | (simp; done) | (simp; omega)), al_old _ _ _ (by first | omega | (simp; done) | (simp; omega)), al_new _ _ _ (by first | omega | (simp; done) | (simp; omega))])
  have hnn := (hb1.block (w.heap.size + 1) (by first | omega | (simp; done) | (simp; omega))).trans (show (((((w.alloc (.cells #[.int .i64 c, .int .i64 s, .int .i64 p, .int .i64 m, .int .i64 k] 24)).alloc (.cells #[.int .i64 n] 3)).alloc (.cells #[.bool full] 4)).alloc (.cells #[.bool moved] 4)).alloc (.cells #[.int .i64 0, .int .i64 0, .int .i64 0, .int .i64 0, .int .i64 0] 24)).heap[w.heap.size + 1]? = some _ by rw [al_old _ _ _ (by first | omega | (simp; done) | (simp; omega)), al_old _ _ _ (by first | omega | (simp; done) | (simp; omega)), al_old _ _ _ (by first | omega | (simp; done) | (simp; omega)), al_new _ _ _ (by first | omega | (simp; done) | (simp; omega))])
  have hfu := (hb1.block (w.heap.size + 1 + 1) (by first | omega | (simp; done) | (simp; omega))).trans (show (((((w.alloc (.cells #[.int .i64 c, .int .i64 s, .int .i64 p, .int .i64 m, .int .i64 k] 24)).alloc (.cells #[.int .i64 n] 3)).alloc (.cells #[.bool full] 4)).alloc (.cells #[.bool moved] 4)).alloc (.cells #[.int .i64 0, .int .i64 0, .int .i64 0, .int .i64 0, .int .i64 0] 24)).heap[w.heap.size + 1 + 1]? = some _ by rw [al_old _ _ _ (by first | omega | (simp; done) | (simp; omega)), al_old _ _ _ (by first | omega | (simp; done) | (simp; omega)), al_new _ _ _ (by first | omega | (simp; done) | (simp; omega))])
  have hmo := (hb1.block (w.heap.size + 1 + 1 + 1) (by first | omega | (simp; done) | (simp; omega))).trans (show (((((w.alloc (.cells #[.int .i64 c, .int .i64 s, .int .i64 p, .int .i64 m, .int .i64 k] 24)).alloc (.cells #[.int .i64 n] 3)).alloc (.cells #[.bool full] 4)).alloc (.cells #[.bool moved] 4)).alloc (.cells #[.int .i64 0, .int .i64 0, .int .i64 0, .int .i64 0, .int .i64 0] 24)).heap[w.heap.size + 1 + 1 + 1]? = some _ by rw [al_old _ _ _ (by first | omega | (simp; done) | (simp; omega)), al_new _ _ _ (by first | omega | (simp; done) | (simp; omega))])
  have hy := (hb1.block (w.heap.size + 1 + 1 + 1 + 1) (by first | omega | (simp; done) | (simp; omega))).trans (show (((((w.alloc (.cells #[.int .i64 c, .int .i64 s, .int .i64 p, .int .i64 m, .int .i64 k] 24)).alloc (.cells #[.int .i64 n] 3)).alloc (.cells #[.bool full] 4)).alloc (.cells #[.bool moved] 4)).alloc (.cells #[.int .i64 0, .int .i64 0, .int .i64 0, .int .i64 0, .int .i64 0] 24)).heap[w.heap.size + 1 + 1 + 1 + 1]? = some _ by rw [al_new _ _ _ (by first | omega | (simp; done) | (simp; omega))])
  clear hb1
  obtain ⟨⟨x0, x1, x2, x3, x4⟩, xf⟩ := five hx
  have v0 := cell_of_row w1 _ 0 _ 3 (0, 0) hnn
  have v1 := cell_of_row w1 _ 0 _ 4 (0, 0) hfu
  have v2 := cell_of_row w1 _ 0 _ 4 (0, 0) hmo
  clear xf
  go_wp2_with fail
  refine (changed_no _ c s p m k _ hm).mono ?_
  rintro e w2 ⟨rfl, hb2⟩
  have hB2 : Below w.heap.size w w2 := below_tr hb2 hB1 (Nat.le_refl _)
  have hy2 := (hb2.block (w.heap.size + 1 + 1 + 1 + 1) (by omega)).trans hy
  have z2 : w.heap.size + 1 + 1 + 1 + 1 < w2.heap.size := by have := hb2.size; omega
  clear hb2 hy hx hnn hfu hmo v0 v1 v2 x0 x1 x2 x3 x4
  obtain ⟨⟨y0, y1, y2, y3, y4⟩, yf⟩ := five hy2
  have yf0 := yf 0
  have yf1 := yf 1
  have yf2 := yf 2
  have yf3 := yf 3
  have yf4 := yf 4
  clear hy2 yf
  go_wp2
  exact bodyPost_ret (v := .tuple #[.agg #[.int .i64 0, .int .i64 0, .int .i64 0, .int .i64 0, .int .i64 0], .int .i64 120]) (by simp [results, Try.results10, go_sem, y0, y1, y2, y3, y4]) rfl ⟨rfl, by (repeat (refine Below.setCell ?_ (by first | omega | (simp; done) | (simp; omega)) _)); exact hB2⟩
set_option maxHeartbeats 4000000 in
theorem pack_r (c s p m k n : Int) (full moved : Bool) (w : World) (hm : MayB c s p m k = true) (hn : inB n 0 1073741824 = false) : Calls Try.prog 10 #[.agg #[.int .i64 c, .int .i64 s, .int .i64 p, .int .i64 m, .int .i64 k], .int .i64 n, .bool full, .bool moved] w (Win 0 0 0 0 0 5 w) := by
  have hu24 := Try.underlying24
  have hu49 := Try.underlying49
  obtain ⟨q0, q1, q2, q3, q4, q5, q6, q7, q8, q9⟩ := MayB_t hm
  go_enter Try.func10, Try.ntmps10
  go_wp2_with fail
  refine (check_t c s p m k _ hm).mono ?_
  rintro e w1 ⟨rfl, hb1⟩
  have hB1 : Below w.heap.size w w1 := (by repeat (first | with_reducible exact Below.refl _ _ | with_reducible assumption | with_reducible refine Below.drew ?_ | with_reducible refine below_dN ?_ _ | with_reducible refine Below.setCell ?_ (by first | omega | (simp; done) | (simp; omega)) _ | with_reducible refine below_al ?_ (by first | omega | (simp; done) | (simp; omega)) _ | exact Below.refl _ _ | assumption | refine Below.drew ?_ | refine below_dN ?_ _ | refine Below.setCell ?_ (by first | omega | (simp; done) | (simp; omega)) _ | refine below_al ?_ (by first | omega | (simp; done) | (simp; omega)) _ | refine below_tr (by assumption) ?_ (by first | omega | (simp; done) | (simp; omega))))
  have z1 : w.heap.size + 1 + 1 + 1 + 1 < w1.heap.size := by have := hb1.size; simp at this; omega
  have hx := (hb1.block (w.heap.size) (by first | omega | (simp; done) | (simp; omega))).trans (show (((((w.alloc (.cells #[.int .i64 c, .int .i64 s, .int .i64 p, .int .i64 m, .int .i64 k] 24)).alloc (.cells #[.int .i64 n] 3)).alloc (.cells #[.bool full] 4)).alloc (.cells #[.bool moved] 4)).alloc (.cells #[.int .i64 0, .int .i64 0, .int .i64 0, .int .i64 0, .int .i64 0] 24)).heap[w.heap.size]? = some _ by rw [al_old _ _ _ (by first | omega | (simp; done) | (simp; omega)), al_old _ _ _ (by first | omega | (simp; done) | (simp; omega)), al_old _ _ _ (by first | omega | (simp; done) | (simp; omega)), al_old _ _ _ (by first | omega | (simp; done) | (simp; omega)), al_new _ _ _ (by first | omega | (simp; done) | (simp; omega))])
  have hnn := (hb1.block (w.heap.size + 1) (by first | omega | (simp; done) | (simp; omega))).trans (show (((((w.alloc (.cells #[.int .i64 c, .int .i64 s, .int .i64 p, .int .i64 m, .int .i64 k] 24)).alloc (.cells #[.int .i64 n] 3)).alloc (.cells #[.bool full] 4)).alloc (.cells #[.bool moved] 4)).alloc (.cells #[.int .i64 0, .int .i64 0, .int .i64 0, .int .i64 0, .int .i64 0] 24)).heap[w.heap.size + 1]? = some _ by rw [al_old _ _ _ (by first | omega | (simp; done) | (simp; omega)), al_old _ _ _ (by first | omega | (simp; done) | (simp; omega)), al_old _ _ _ (by first | omega | (simp; done) | (simp; omega)), al_new _ _ _ (by first | omega | (simp; done) | (simp; omega))])
  have hfu := (hb1.block (w.heap.size + 1 + 1) (by first | omega | (simp; done) | (simp; omega))).trans (show (((((w.alloc (.cells #[.int .i64 c, .int .i64 s, .int .i64 p, .int .i64 m, .int .i64 k] 24)).alloc (.cells #[.int .i64 n] 3)).alloc (.cells #[.bool full] 4)).alloc (.cells #[.bool moved] 4)).alloc (.cells #[.int .i64 0, .int .i64 0, .int .i64 0, .int .i64 0, .int .i64 0] 24)).heap[w.heap.size + 1 + 1]? = some _ by rw [al_old _ _ _ (by first | omega | (simp; done) | (simp; omega)), al_old _ _ _ (by first | omega | (simp; done) | (simp; omega)), al_new _ _ _ (by first | omega | (simp; done) | (simp; omega))])
  have hmo := (hb1.block (w.heap.size + 1 + 1 + 1) (by first | omega | (simp; done) | (simp; omega))).trans (show (((((w.alloc (.cells #[.int .i64 c, .int .i64 s, .int .i64 p, .int .i64 m, .int .i64 k] 24)).alloc (.cells #[.int .i64 n] 3)).alloc (.cells #[.bool full] 4)).alloc (.cells #[.bool moved] 4)).alloc (.cells #[.int .i64 0, .int .i64 0, .int .i64 0, .int .i64 0, .int .i64 0] 24)).heap[w.heap.size + 1 + 1 + 1]? = some _ by rw [al_old _ _ _ (by first | omega | (simp; done) | (simp; omega)), al_new _ _ _ (by first | omega | (simp; done) | (simp; omega))])
  have hy := (hb1.block (w.heap.size + 1 + 1 + 1 + 1) (by first | omega | (simp; done) | (simp; omega))).trans (show (((((w.alloc (.cells #[.int .i64 c, .int .i64 s, .int .i64 p, .int .i64 m, .int .i64 k] 24)).alloc (.cells #[.int .i64 n] 3)).alloc (.cells #[.bool full] 4)).alloc (.cells #[.bool moved] 4)).alloc (.cells #[.int .i64 0, .int .i64 0, .int .i64 0, .int .i64 0, .int .i64 0] 24)).heap[w.heap.size + 1 + 1 + 1 + 1]? = some _ by rw [al_new _ _ _ (by first | omega | (simp; done) | (simp; omega))])
  clear hb1
  obtain ⟨⟨x0, x1, x2, x3, x4⟩, xf⟩ := five hx
  have v0 := cell_of_row w1 _ 0 _ 3 (0, 0) hnn
  have v1 := cell_of_row w1 _ 0 _ 4 (0, 0) hfu
  have v2 := cell_of_row w1 _ 0 _ 4 (0, 0) hmo
  clear xf
  go_wp2_with fail
  refine (within n 0 1073741824 _).mono ?_
  rw [hn]
  rintro e w' ⟨rfl, rfl⟩
  obtain ⟨⟨y0, y1, y2, y3, y4⟩, yf⟩ := five hy
  have yf0 := yf 0
  have yf1 := yf 1
  have yf2 := yf 2
  have yf3 := yf 3
  have yf4 := yf 4
  clear hy yf
  go_wp2
  exact bodyPost_ret (v := .tuple #[.agg #[.int .i64 0, .int .i64 0, .int .i64 0, .int .i64 0, .int .i64 0], .int .i64 5]) (by simp [results, Try.results10, go_sem, y0, y1, y2, y3, y4]) rfl ⟨rfl, by (repeat (refine Below.setCell ?_ (by first | omega | (simp; done) | (simp; omega)) _)); exact hB1⟩
set_option maxHeartbeats 4000000 in
theorem pack_t (c s p m k n : Int) (full moved : Bool) (w : World) (hm : MayB c s p m k = true) (hn : inB n 0 1073741824 = true) : Calls Try.prog 10 #[.agg #[.int .i64 c, .int .i64 s, .int .i64 p, .int .i64 m, .int .i64 k], .int .i64 n, .bool full, .bool moved] w (Win (if moved = true then ackC c s p m k n full else c) s (if moved = true then ackP c s p m k n full else p) m k 0 w) := by
  have hu24 := Try.underlying24
  have hu49 := Try.underlying49
  obtain ⟨q0, q1, q2, q3, q4, q5, q6, q7, q8, q9⟩ := MayB_t hm
  obtain ⟨n0, n1⟩ := inB_t hn
  generalize hC : (if moved = true then ackC c s p m k n full else c) = C
  generalize hP : (if moved = true then ackP c s p m k n full else p) = P
  have HC := Lib.hid hC
  have HP := Lib.hid hP
  clear hC hP
  go_enter Try.func10, Try.ntmps10
  go_wp2_with fail
  refine (check_t c s p m k _ hm).mono ?_
  rintro e w1 ⟨rfl, hb1⟩
  have hB1 : Below w.heap.size w w1 := (by repeat (first | with_reducible exact Below.refl _ _ | with_reducible assumption | with_reducible refine Below.drew ?_ | with_reducible refine below_dN ?_ _ | with_reducible refine Below.setCell ?_ (by first | omega | (simp; done) | (simp; omega)) _ | with_reducible refine below_al ?_ (by first | omega | (simp; done) | (simp; omega)) _ | exact Below.refl _ _ | assumption | refine Below.drew ?_ | refine below_dN ?_ _ | refine Below.setCell ?_ (by first | omega | (simp; done) | (simp; omega)) _ | refine below_al ?_ (by first | omega | (simp; done) | (simp; omega)) _ | refine below_tr (by assumption) ?_ (by first | omega | (simp; done) | (simp; omega))))
  have z1 : w.heap.size + 1 + 1 + 1 + 1 < w1.heap.size := by have := hb1.size; simp at this; omega
  have hx := (hb1.block (w.heap.size) (by first | omega | (simp; done) | (simp; omega))).trans (show (((((w.alloc (.cells #[.int .i64 c, .int .i64 s, .int .i64 p, .int .i64 m, .int .i64 k] 24)).alloc (.cells #[.int .i64 n] 3)).alloc (.cells #[.bool full] 4)).alloc (.cells #[.bool moved] 4)).alloc (.cells #[.int .i64 0, .int .i64 0, .int .i64 0, .int .i64 0, .int .i64 0] 24)).heap[w.heap.size]? = some _ by rw [al_old _ _ _ (by first | omega | (simp; done) | (simp; omega)), al_old _ _ _ (by first | omega | (simp; done) | (simp; omega)), al_old _ _ _ (by first | omega | (simp; done) | (simp; omega)), al_old _ _ _ (by first | omega | (simp; done) | (simp; omega)), al_new _ _ _ (by first | omega | (simp; done) | (simp; omega))])
  have hnn := (hb1.block (w.heap.size + 1) (by first | omega | (simp; done) | (simp; omega))).trans (show (((((w.alloc (.cells #[.int .i64 c, .int .i64 s, .int .i64 p, .int .i64 m, .int .i64 k] 24)).alloc (.cells #[.int .i64 n] 3)).alloc (.cells #[.bool full] 4)).alloc (.cells #[.bool moved] 4)).alloc (.cells #[.int .i64 0, .int .i64 0, .int .i64 0, .int .i64 0, .int .i64 0] 24)).heap[w.heap.size + 1]? = some _ by rw [al_old _ _ _ (by first | omega | (simp; done) | (simp; omega)), al_old _ _ _ (by first | omega | (simp; done) | (simp; omega)), al_old _ _ _ (by first | omega | (simp; done) | (simp; omega)), al_new _ _ _ (by first | omega | (simp; done) | (simp; omega))])
  have hfu := (hb1.block (w.heap.size + 1 + 1) (by first | omega | (simp; done) | (simp; omega))).trans (show (((((w.alloc (.cells #[.int .i64 c, .int .i64 s, .int .i64 p, .int .i64 m, .int .i64 k] 24)).alloc (.cells #[.int .i64 n] 3)).alloc (.cells #[.bool full] 4)).alloc (.cells #[.bool moved] 4)).alloc (.cells #[.int .i64 0, .int .i64 0, .int .i64 0, .int .i64 0, .int .i64 0] 24)).heap[w.heap.size + 1 + 1]? = some _ by rw [al_old _ _ _ (by first | omega | (simp; done) | (simp; omega)), al_old _ _ _ (by first | omega | (simp; done) | (simp; omega)), al_new _ _ _ (by first | omega | (simp; done) | (simp; omega))])
  have hmo := (hb1.block (w.heap.size + 1 + 1 + 1) (by first | omega | (simp; done) | (simp; omega))).trans (show (((((w.alloc (.cells #[.int .i64 c, .int .i64 s, .int .i64 p, .int .i64 m, .int .i64 k] 24)).alloc (.cells #[.int .i64 n] 3)).alloc (.cells #[.bool full] 4)).alloc (.cells #[.bool moved] 4)).alloc (.cells #[.int .i64 0, .int .i64 0, .int .i64 0, .int .i64 0, .int .i64 0] 24)).heap[w.heap.size + 1 + 1 + 1]? = some _ by rw [al_old _ _ _ (by first | omega | (simp; done) | (simp; omega)), al_new _ _ _ (by first | omega | (simp; done) | (simp; omega))])
  have hy := (hb1.block (w.heap.size + 1 + 1 + 1 + 1) (by first | omega | (simp; done) | (simp; omega))).trans (show (((((w.alloc (.cells #[.int .i64 c, .int .i64 s, .int .i64 p, .int .i64 m, .int .i64 k] 24)).alloc (.cells #[.int .i64 n] 3)).alloc (.cells #[.bool full] 4)).alloc (.cells #[.bool moved] 4)).alloc (.cells #[.int .i64 0, .int .i64 0, .int .i64 0, .int .i64 0, .int .i64 0] 24)).heap[w.heap.size + 1 + 1 + 1 + 1]? = some _ by rw [al_new _ _ _ (by first | omega | (simp; done) | (simp; omega))])
  clear hb1
  obtain ⟨⟨x0, x1, x2, x3, x4⟩, xf⟩ := five hx
  have v0 := cell_of_row w1 _ 0 _ 3 (0, 0) hnn
  have v1 := cell_of_row w1 _ 0 _ 4 (0, 0) hfu
  have v2 := cell_of_row w1 _ 0 _ 4 (0, 0) hmo
  clear xf
  go_wp2_with fail
  refine (within n 0 1073741824 _).mono ?_
  rw [hn]
  rintro e w' ⟨rfl, rfl⟩
  go_wp2_with fail
  refine (changed_ack ⟨w.heap.size + 1 + 1 + 1, 0, none⟩ ⟨w.heap.size + 1, 0, none⟩ ⟨w.heap.size + 1 + 1, 0, none⟩ c s p m k C s P _ hm (fun w2 g hb hx => by rw [← HC.out, ← HP.out]; exact ack1 g c s p m k n full moved _ _ _ w2 hx ((hb.cell (p := ⟨w.heap.size + 1 + 1 + 1, 0, none⟩) (by show w.heap.size + 1 + 1 + 1 < _; omega)).trans v2) ((hb.cell (p := ⟨w.heap.size + 1, 0, none⟩) (by show w.heap.size + 1 < _; omega)).trans v0) ((hb.cell (p := ⟨w.heap.size + 1 + 1, 0, none⟩) (by show w.heap.size + 1 + 1 < _; omega)).trans v1) (by omega) (by omega) (by omega) (by omega) q8 q9 n0 n1)).mono ?_
  rintro e w2 ⟨rfl, hb2⟩
  have hB2 : Below w.heap.size w w2 := below_tr hb2 hB1 (Nat.le_refl _)
  have hy2 := (hb2.block (w.heap.size + 1 + 1 + 1 + 1) (by omega)).trans hy
  have z2 : w.heap.size + 1 + 1 + 1 + 1 < w2.heap.size := by have := hb2.size; omega
  clear hb2 hy hx hnn hfu hmo v0 v1 v2 x0 x1 x2 x3 x4
  obtain ⟨⟨y0, y1, y2, y3, y4⟩, yf⟩ := five hy2
  have yf0 := yf 0
  have yf1 := yf 1
  have yf2 := yf 2
  have yf3 := yf 3
  have yf4 := yf 4
  clear hy2 yf
  go_wp2
  exact bodyPost_ret (v := .tuple #[.agg #[.int .i64 C, .int .i64 s, .int .i64 P, .int .i64 m, .int .i64 k], .int .i64 0]) (by simp [results, Try.results10, go_sem, y0, y1, y2, y3, y4]) rfl ⟨rfl, by (repeat (refine Below.setCell ?_ (by first | omega | (simp; done) | (simp; omega)) _)); exact hB2⟩
set_option maxHeartbeats 1000000 in
theorem rack_no (c s p m k n : Int) (full : Bool) (w : World) (hm : MayB c s p m k = true) (hn : inB n 0 1073741824 = true)  : Calls Try.prog 11 #[.agg #[.int .i64 c, .int .i64 s, .int .i64 p, .int .i64 m, .int .i64 k], .int .i64 n, .bool full, .bool false] w (Win c s p m k 0 w) := by
  have hu24 := Try.underlying24
  have hu49 := Try.underlying49
  obtain ⟨q0, q1, q2, q3, q4, q5, q6, q7, q8, q9⟩ := MayB_t hm
  obtain ⟨n0, n1⟩ := inB_t hn
  go_enter Try.func11, Try.ntmps11
  go_wp2_with fail
  refine (asked_t c s p m k n _ hm hn).mono ?_
  rintro e w1 ⟨rfl, hb1⟩
  have hB1 : Below w.heap.size w w1 := (by repeat (first | with_reducible exact Below.refl _ _ | with_reducible assumption | with_reducible refine Below.drew ?_ | with_reducible refine below_dN ?_ _ | with_reducible refine Below.setCell ?_ (by first | omega | (simp; done) | (simp; omega)) _ | with_reducible refine below_al ?_ (by first | omega | (simp; done) | (simp; omega)) _ | exact Below.refl _ _ | assumption | refine Below.drew ?_ | refine below_dN ?_ _ | refine Below.setCell ?_ (by first | omega | (simp; done) | (simp; omega)) _ | refine below_al ?_ (by first | omega | (simp; done) | (simp; omega)) _ | refine below_tr (by assumption) ?_ (by first | omega | (simp; done) | (simp; omega))))
  have z1 : w.heap.size + 1 < w1.heap.size := by have := hb1.size; simp at this; omega
  have hx := (hb1.block (w.heap.size) (by first | omega | (simp; done) | (simp; omega))).trans (show ((w.alloc (.cells #[.int .i64 c, .int .i64 s, .int .i64 p, .int .i64 m, .int .i64 k] 24)).alloc (.cells #[.int .i64 0, .int .i64 0, .int .i64 0, .int .i64 0, .int .i64 0] 24)).heap[w.heap.size]? = some _ by rw [al_old _ _ _ (by first | omega | (simp; done) | (simp; omega)), al_new _ _ _ (by first | omega | (simp; done) | (simp; omega))])
  have hy := (hb1.block (w.heap.size + 1) (by first | omega | (simp; done) | (simp; omega))).trans (show ((w.alloc (.cells #[.int .i64 c, .int .i64 s, .int .i64 p, .int .i64 m, .int .i64 k] 24)).alloc (.cells #[.int .i64 0, .int .i64 0, .int .i64 0, .int .i64 0, .int .i64 0] 24)).heap[w.heap.size + 1]? = some _ by rw [al_new _ _ _ (by first | omega | (simp; done) | (simp; omega))])
  clear hb1
  obtain ⟨⟨x0, x1, x2, x3, x4⟩, xf⟩ := five hx
  have xf0 := xf 0
  have xf2 := xf 2
  clear hx xf
  obtain ⟨⟨y0, y1, y2, y3, y4⟩, yf⟩ := five hy
  have yf0 := yf 0
  have yf1 := yf 1
  have yf2 := yf 2
  have yf3 := yf 3
  have yf4 := yf 4
  clear hy yf
  go_wp2
  exact bodyPost_ret (v := .tuple #[.agg #[.int .i64 c, .int .i64 s, .int .i64 p, .int .i64 m, .int .i64 k], .int .i64 0]) (by simp [results, Try.results11, go_sem, y0, y1, y2, y3, y4]) rfl ⟨rfl, by (repeat (refine Below.setCell ?_ (by first | omega | (simp; done) | (simp; omega)) _)); exact hB1⟩
set_option maxHeartbeats 1000000 in
theorem rack_ssf (c s p m k n : Int) (w : World) (hm : MayB c s p m k = true) (hn : inB n 0 1073741824 = true) (h1 : c ≤ s) : Calls Try.prog 11 #[.agg #[.int .i64 c, .int .i64 s, .int .i64 p, .int .i64 m, .int .i64 k], .int .i64 n, .bool true, .bool true] w (Win (mn (c + mn n m) k) s (mn p (mn (c + mn n m) k)) m k 0 w) := by
  have hu24 := Try.underlying24
  have hu49 := Try.underlying49
  obtain ⟨q0, q1, q2, q3, q4, q5, q6, q7, q8, q9⟩ := MayB_t hm
  obtain ⟨n0, n1⟩ := inB_t hn
  have mn0 : 0 ≤ mn n m := by rw [mn_def]; split <;> omega
  have mn1 : mn n m ≤ m := by rw [mn_def]; split <;> omega
  go_enter Try.func11, Try.ntmps11
  go_wp2_with fail
  refine (asked_t c s p m k n _ hm hn).mono ?_
  rintro e w1 ⟨rfl, hb1⟩
  have hB1 : Below w.heap.size w w1 := (by repeat (first | with_reducible exact Below.refl _ _ | with_reducible assumption | with_reducible refine Below.drew ?_ | with_reducible refine below_dN ?_ _ | with_reducible refine Below.setCell ?_ (by first | omega | (simp; done) | (simp; omega)) _ | with_reducible refine below_al ?_ (by first | omega | (simp; done) | (simp; omega)) _ | exact Below.refl _ _ | assumption | refine Below.drew ?_ | refine below_dN ?_ _ | refine Below.setCell ?_ (by first | omega | (simp; done) | (simp; omega)) _ | refine below_al ?_ (by first | omega | (simp; done) | (simp; omega)) _ | refine below_tr (by assumption) ?_ (by first | omega | (simp; done) | (simp; omega))))
  have z1 : w.heap.size + 1 < w1.heap.size := by have := hb1.size; simp at this; omega
  have hx := (hb1.block (w.heap.size) (by first | omega | (simp; done) | (simp; omega))).trans (show ((w.alloc (.cells #[.int .i64 c, .int .i64 s, .int .i64 p, .int .i64 m, .int .i64 k] 24)).alloc (.cells #[.int .i64 0, .int .i64 0, .int .i64 0, .int .i64 0, .int .i64 0] 24)).heap[w.heap.size]? = some _ by rw [al_old _ _ _ (by first | omega | (simp; done) | (simp; omega)), al_new _ _ _ (by first | omega | (simp; done) | (simp; omega))])
  have hy := (hb1.block (w.heap.size + 1) (by first | omega | (simp; done) | (simp; omega))).trans (show ((w.alloc (.cells #[.int .i64 c, .int .i64 s, .int .i64 p, .int .i64 m, .int .i64 k] 24)).alloc (.cells #[.int .i64 0, .int .i64 0, .int .i64 0, .int .i64 0, .int .i64 0] 24)).heap[w.heap.size + 1]? = some _ by rw [al_new _ _ _ (by first | omega | (simp; done) | (simp; omega))])
  clear hb1
  obtain ⟨⟨x0, x1, x2, x3, x4⟩, xf⟩ := five hx
  have xf0 := xf 0
  have xf2 := xf 2
  clear hx xf
  obtain ⟨⟨y0, y1, y2, y3, y4⟩, yf⟩ := five hy
  have yf0 := yf 0
  have yf1 := yf 1
  have yf2 := yf 2
  have yf3 := yf 3
  have yf4 := yf 4
  clear hy yf
  go_wp2
  exact bodyPost_ret (v := .tuple #[.agg #[.int .i64 (mn (c + mn n m) k), .int .i64 s, .int .i64 (mn p (mn (c + mn n m) k)), .int .i64 m, .int .i64 k], .int .i64 0]) (by simp [results, Try.results11, go_sem, y0, y1, y2, y3, y4]) rfl ⟨rfl, by (repeat (refine Below.setCell ?_ (by first | omega | (simp; done) | (simp; omega)) _)); exact hB1⟩
set_option maxHeartbeats 1000000 in
theorem rack_ssn (c s p m k n : Int) (w : World) (hm : MayB c s p m k = true) (hn : inB n 0 1073741824 = true) (h1 : c ≤ s) : Calls Try.prog 11 #[.agg #[.int .i64 c, .int .i64 s, .int .i64 p, .int .i64 m, .int .i64 k], .int .i64 n, .bool false, .bool true] w (Win (mn c k) s (mn p (mn c k)) m k 0 w) := by
  have hu24 := Try.underlying24
  have hu49 := Try.underlying49
  obtain ⟨q0, q1, q2, q3, q4, q5, q6, q7, q8, q9⟩ := MayB_t hm
  obtain ⟨n0, n1⟩ := inB_t hn
  go_enter Try.func11, Try.ntmps11
  go_wp2_with fail
  refine (asked_t c s p m k n _ hm hn).mono ?_
  rintro e w1 ⟨rfl, hb1⟩
  have hB1 : Below w.heap.size w w1 := (by repeat (first | with_reducible exact Below.refl _ _ | with_reducible assumption | with_reducible refine Below.drew ?_ | with_reducible refine below_dN ?_ _ | with_reducible refine Below.setCell ?_ (by first | omega | (simp; done) | (simp; omega)) _ | with_reducible refine below_al ?_ (by first | omega | (simp; done) | (simp; omega)) _ | exact Below.refl _ _ | assumption | refine Below.drew ?_ | refine below_dN ?_ _ | refine Below.setCell ?_ (by first | omega | (simp; done) | (simp; omega)) _ | refine below_al ?_ (by first | omega | (simp; done) | (simp; omega)) _ | refine below_tr (by assumption) ?_ (by first | omega | (simp; done) | (simp; omega))))
  have z1 : w.heap.size + 1 < w1.heap.size := by have := hb1.size; simp at this; omega
  have hx := (hb1.block (w.heap.size) (by first | omega | (simp; done) | (simp; omega))).trans (show ((w.alloc (.cells #[.int .i64 c, .int .i64 s, .int .i64 p, .int .i64 m, .int .i64 k] 24)).alloc (.cells #[.int .i64 0, .int .i64 0, .int .i64 0, .int .i64 0, .int .i64 0] 24)).heap[w.heap.size]? = some _ by rw [al_old _ _ _ (by first | omega | (simp; done) | (simp; omega)), al_new _ _ _ (by first | omega | (simp; done) | (simp; omega))])
  have hy := (hb1.block (w.heap.size + 1) (by first | omega | (simp; done) | (simp; omega))).trans (show ((w.alloc (.cells #[.int .i64 c, .int .i64 s, .int .i64 p, .int .i64 m, .int .i64 k] 24)).alloc (.cells #[.int .i64 0, .int .i64 0, .int .i64 0, .int .i64 0, .int .i64 0] 24)).heap[w.heap.size + 1]? = some _ by rw [al_new _ _ _ (by first | omega | (simp; done) | (simp; omega))])
  clear hb1
  obtain ⟨⟨x0, x1, x2, x3, x4⟩, xf⟩ := five hx
  have xf0 := xf 0
  have xf2 := xf 2
  clear hx xf
  obtain ⟨⟨y0, y1, y2, y3, y4⟩, yf⟩ := five hy
  have yf0 := yf 0
  have yf1 := yf 1
  have yf2 := yf 2
  have yf3 := yf 3
  have yf4 := yf 4
  clear hy yf
  go_wp2
  exact bodyPost_ret (v := .tuple #[.agg #[.int .i64 (mn c k), .int .i64 s, .int .i64 (mn p (mn c k)), .int .i64 m, .int .i64 k], .int .i64 0]) (by simp [results, Try.results11, go_sem, y0, y1, y2, y3, y4]) rfl ⟨rfl, by (repeat (refine Below.setCell ?_ (by first | omega | (simp; done) | (simp; omega)) _)); exact hB1⟩
set_option maxHeartbeats 1000000 in
theorem rack_few (c s p m k n : Int) (full : Bool) (w : World) (hm : MayB c s p m k = true) (hn : inB n 0 1073741824 = true) (h1 : ¬ c ≤ s) (h2 : p + n < c) : Calls Try.prog 11 #[.agg #[.int .i64 c, .int .i64 s, .int .i64 p, .int .i64 m, .int .i64 k], .int .i64 n, .bool full, .bool true] w (Win (mn c k) s (mn (p + n) (mn c k)) m k 0 w) := by
  have hu24 := Try.underlying24
  have hu49 := Try.underlying49
  obtain ⟨q0, q1, q2, q3, q4, q5, q6, q7, q8, q9⟩ := MayB_t hm
  obtain ⟨n0, n1⟩ := inB_t hn
  go_enter Try.func11, Try.ntmps11
  go_wp2_with fail
  refine (asked_t c s p m k n _ hm hn).mono ?_
  rintro e w1 ⟨rfl, hb1⟩
  have hB1 : Below w.heap.size w w1 := (by repeat (first | with_reducible exact Below.refl _ _ | with_reducible assumption | with_reducible refine Below.drew ?_ | with_reducible refine below_dN ?_ _ | with_reducible refine Below.setCell ?_ (by first | omega | (simp; done) | (simp; omega)) _ | with_reducible refine below_al ?_ (by first | omega | (simp; done) | (simp; omega)) _ | exact Below.refl _ _ | assumption | refine Below.drew ?_ | refine below_dN ?_ _ | refine Below.setCell ?_ (by first | omega | (simp; done) | (simp; omega)) _ | refine below_al ?_ (by first | omega | (simp; done) | (simp; omega)) _ | refine below_tr (by assumption) ?_ (by first | omega | (simp; done) | (simp; omega))))
  have z1 : w.heap.size + 1 < w1.heap.size := by have := hb1.size; simp at this; omega
  have hx := (hb1.block (w.heap.size) (by first | omega | (simp; done) | (simp; omega))).trans (show ((w.alloc (.cells #[.int .i64 c, .int .i64 s, .int .i64 p, .int .i64 m, .int .i64 k] 24)).alloc (.cells #[.int .i64 0, .int .i64 0, .int .i64 0, .int .i64 0, .int .i64 0] 24)).heap[w.heap.size]? = some _ by rw [al_old _ _ _ (by first | omega | (simp; done) | (simp; omega)), al_new _ _ _ (by first | omega | (simp; done) | (simp; omega))])
  have hy := (hb1.block (w.heap.size + 1) (by first | omega | (simp; done) | (simp; omega))).trans (show ((w.alloc (.cells #[.int .i64 c, .int .i64 s, .int .i64 p, .int .i64 m, .int .i64 k] 24)).alloc (.cells #[.int .i64 0, .int .i64 0, .int .i64 0, .int .i64 0, .int .i64 0] 24)).heap[w.heap.size + 1]? = some _ by rw [al_new _ _ _ (by first | omega | (simp; done) | (simp; omega))])
  clear hb1
  obtain ⟨⟨x0, x1, x2, x3, x4⟩, xf⟩ := five hx
  have xf0 := xf 0
  have xf2 := xf 2
  clear hx xf
  obtain ⟨⟨y0, y1, y2, y3, y4⟩, yf⟩ := five hy
  have yf0 := yf 0
  have yf1 := yf 1
  have yf2 := yf 2
  have yf3 := yf 3
  have yf4 := yf 4
  clear hy yf
  go_wp2
  exact bodyPost_ret (v := .tuple #[.agg #[.int .i64 (mn c k), .int .i64 s, .int .i64 (mn (p + n) (mn c k)), .int .i64 m, .int .i64 k], .int .i64 0]) (by simp [results, Try.results11, go_sem, y0, y1, y2, y3, y4]) rfl ⟨rfl, by (repeat (refine Below.setCell ?_ (by first | omega | (simp; done) | (simp; omega)) _)); exact hB1⟩
set_option maxHeartbeats 1000000 in
theorem rack_ful (c s p m k n : Int) (w : World) (hm : MayB c s p m k = true) (hn : inB n 0 1073741824 = true) (h1 : ¬ c ≤ s) (h2 : ¬ p + n < c) : Calls Try.prog 11 #[.agg #[.int .i64 c, .int .i64 s, .int .i64 p, .int .i64 m, .int .i64 k], .int .i64 n, .bool true, .bool true] w (Win (mn (c + m) k) s (mn (p + n - c) (mn (c + m) k)) m k 0 w) := by
  have hu24 := Try.underlying24
  have hu49 := Try.underlying49
  obtain ⟨q0, q1, q2, q3, q4, q5, q6, q7, q8, q9⟩ := MayB_t hm
  obtain ⟨n0, n1⟩ := inB_t hn
  go_enter Try.func11, Try.ntmps11
  go_wp2_with fail
  refine (asked_t c s p m k n _ hm hn).mono ?_
  rintro e w1 ⟨rfl, hb1⟩
  have hB1 : Below w.heap.size w w1 := (by repeat (first | with_reducible exact Below.refl _ _ | with_reducible assumption | with_reducible refine Below.drew ?_ | with_reducible refine below_dN ?_ _ | with_reducible refine Below.setCell ?_ (by first | omega | (simp; done) | (simp; omega)) _ | with_reducible refine below_al ?_ (by first | omega | (simp; done) | (simp; omega)) _ | exact Below.refl _ _ | assumption | refine Below.drew ?_ | refine below_dN ?_ _ | refine Below.setCell ?_ (by first | omega | (simp; done) | (simp; omega)) _ | refine below_al ?_ (by first | omega | (simp; done) | (simp; omega)) _ | refine below_tr (by assumption) ?_ (by first | omega | (simp; done) | (simp; omega))))
  have z1 : w.heap.size + 1 < w1.heap.size := by have := hb1.size; simp at this; omega
  have hx := (hb1.block (w.heap.size) (by first | omega | (simp; done) | (simp; omega))).trans (show ((w.alloc (.cells #[.int .i64 c, .int .i64 s, .int .i64 p, .int .i64 m, .int .i64 k] 24)).alloc (.cells #[.int .i64 0, .int .i64 0, .int .i64 0, .int .i64 0, .int .i64 0] 24)).heap[w.heap.size]? = some _ by rw [al_old _ _ _ (by first | omega | (simp; done) | (simp; omega)), al_new _ _ _ (by first | omega | (simp; done) | (simp; omega))])
  have hy := (hb1.block (w.heap.size + 1) (by first | omega | (simp; done) | (simp; omega))).trans (show ((w.alloc (.cells #[.int .i64 c, .int .i64 s, .int .i64 p, .int .i64 m, .int .i64 k] 24)).alloc (.cells #[.int .i64 0, .int .i64 0, .int .i64 0, .int .i64 0, .int .i64 0] 24)).heap[w.heap.size + 1]? = some _ by rw [al_new _ _ _ (by first | omega | (simp; done) | (simp; omega))])
  clear hb1
  have hh : ∀ u v1 v2, (((w1.setCell ⟨w.heap.size, 2, none⟩ u).setCell ⟨w.heap.size, 0, none⟩ v1).setCell ⟨w.heap.size, 0, none⟩ v2).heap[w.heap.size]? = some (.cells #[v2, .int .i64 s, u, .int .i64 m, .int .i64 k] 24 (0, 0)) := fun u v1 v2 => heap_setCell_same _ w.heap.size 0 _ 24 _ (heap_setCell_same _ w.heap.size 0 _ 24 _ (heap_setCell_same w1 w.heap.size 2 _ 24 _ hx))
  have hg : ∀ u v1 v2 v3, ((((w1.setCell ⟨w.heap.size, 2, none⟩ u).setCell ⟨w.heap.size, 0, none⟩ v1).setCell ⟨w.heap.size, 0, none⟩ v2).setCell ⟨w.heap.size, 2, none⟩ v3).heap[w.heap.size]? = some (.cells #[v2, .int .i64 s, v3, .int .i64 m, .int .i64 k] 24 (0, 0)) := fun u v1 v2 v3 => heap_setCell_same _ w.heap.size 2 _ 24 _ (hh u v1 v2)
  have hh0 := fun u v1 v2 => cell_of_row _ w.heap.size 0 _ 24 (0, 0) (hh u v1 v2)
  have hh2 := fun u v1 v2 => cell_of_row _ w.heap.size 2 _ 24 (0, 0) (hh u v1 v2)
  have hf2 := fun u v1 v2 => frozen_of_row _ w.heap.size 2 _ 24 (hh u v1 v2)
  have hg0 := fun u v1 v2 v3 => cell_of_row _ w.heap.size 0 _ 24 (0, 0) (hg u v1 v2 v3)
  have hg1 := fun u v1 v2 v3 => cell_of_row _ w.heap.size 1 _ 24 (0, 0) (hg u v1 v2 v3)
  have hg2 := fun u v1 v2 v3 => cell_of_row _ w.heap.size 2 _ 24 (0, 0) (hg u v1 v2 v3)
  have hg3 := fun u v1 v2 v3 => cell_of_row _ w.heap.size 3 _ 24 (0, 0) (hg u v1 v2 v3)
  have hg4 := fun u v1 v2 v3 => cell_of_row _ w.heap.size 4 _ 24 (0, 0) (hg u v1 v2 v3)
  clear hh hg
  obtain ⟨⟨x0, x1, x2, x3, x4⟩, xf⟩ := five hx
  have xf0 := xf 0
  have xf2 := xf 2
  clear hx xf
  obtain ⟨⟨y0, y1, y2, y3, y4⟩, yf⟩ := five hy
  have yf0 := yf 0
  have yf1 := yf 1
  have yf2 := yf 2
  have yf3 := yf 3
  have yf4 := yf 4
  clear hy yf
  go_wp2
  exact bodyPost_ret (v := .tuple #[.agg #[.int .i64 (mn (c + m) k), .int .i64 s, .int .i64 (mn (p + n - c) (mn (c + m) k)), .int .i64 m, .int .i64 k], .int .i64 0]) (by simp [results, Try.results11, go_sem, y0, y1, y2, y3, y4]) rfl ⟨rfl, by (repeat (refine Below.setCell ?_ (by first | omega | (simp; done) | (simp; omega)) _)); exact hB1⟩
set_option maxHeartbeats 1000000 in
theorem rack_par (c s p m k n : Int) (w : World) (hm : MayB c s p m k = true) (hn : inB n 0 1073741824 = true) (h1 : ¬ c ≤ s) (h2 : ¬ p + n < c) : Calls Try.prog 11 #[.agg #[.int .i64 c, .int .i64 s, .int .i64 p, .int .i64 m, .int .i64 k], .int .i64 n, .bool false, .bool true] w (Win (mn c k) s (mn c (mn c k)) m k 0 w) := by
  have hu24 := Try.underlying24
  have hu49 := Try.underlying49
  obtain ⟨q0, q1, q2, q3, q4, q5, q6, q7, q8, q9⟩ := MayB_t hm
  obtain ⟨n0, n1⟩ := inB_t hn
  go_enter Try.func11, Try.ntmps11
  go_wp2_with fail
  refine (asked_t c s p m k n _ hm hn).mono ?_
  rintro e w1 ⟨rfl, hb1⟩
  have hB1 : Below w.heap.size w w1 := (by repeat (first | with_reducible exact Below.refl _ _ | with_reducible assumption | with_reducible refine Below.drew ?_ | with_reducible refine below_dN ?_ _ | with_reducible refine Below.setCell ?_ (by first | omega | (simp; done) | (simp; omega)) _ | with_reducible refine below_al ?_ (by first | omega | (simp; done) | (simp; omega)) _ | exact Below.refl _ _ | assumption | refine Below.drew ?_ | refine below_dN ?_ _ | refine Below.setCell ?_ (by first | omega | (simp; done) | (simp; omega)) _ | refine below_al ?_ (by first | omega | (simp; done) | (simp; omega)) _ | refine below_tr (by assumption) ?_ (by first | omega | (simp; done) | (simp; omega))))
  have z1 : w.heap.size + 1 < w1.heap.size := by have := hb1.size; simp at this; omega
  have hx := (hb1.block (w.heap.size) (by first | omega | (simp; done) | (simp; omega))).trans (show ((w.alloc (.cells #[.int .i64 c, .int .i64 s, .int .i64 p, .int .i64 m, .int .i64 k] 24)).alloc (.cells #[.int .i64 0, .int .i64 0, .int .i64 0, .int .i64 0, .int .i64 0] 24)).heap[w.heap.size]? = some _ by rw [al_old _ _ _ (by first | omega | (simp; done) | (simp; omega)), al_new _ _ _ (by first | omega | (simp; done) | (simp; omega))])
  have hy := (hb1.block (w.heap.size + 1) (by first | omega | (simp; done) | (simp; omega))).trans (show ((w.alloc (.cells #[.int .i64 c, .int .i64 s, .int .i64 p, .int .i64 m, .int .i64 k] 24)).alloc (.cells #[.int .i64 0, .int .i64 0, .int .i64 0, .int .i64 0, .int .i64 0] 24)).heap[w.heap.size + 1]? = some _ by rw [al_new _ _ _ (by first | omega | (simp; done) | (simp; omega))])
  clear hb1
  obtain ⟨⟨x0, x1, x2, x3, x4⟩, xf⟩ := five hx
  have xf0 := xf 0
  have xf2 := xf 2
  clear hx xf
  obtain ⟨⟨y0, y1, y2, y3, y4⟩, yf⟩ := five hy
  have yf0 := yf 0
  have yf1 := yf 1
  have yf2 := yf 2
  have yf3 := yf 3
  have yf4 := yf 4
  clear hy yf
  go_wp2
  exact bodyPost_ret (v := .tuple #[.agg #[.int .i64 (mn c k), .int .i64 s, .int .i64 (mn c (mn c k)), .int .i64 m, .int .i64 k], .int .i64 0]) (by simp [results, Try.results11, go_sem, y0, y1, y2, y3, y4]) rfl ⟨rfl, by (repeat (refine Below.setCell ?_ (by first | omega | (simp; done) | (simp; omega)) _)); exact hB1⟩
set_option maxHeartbeats 1000000 in
theorem rack_f (c s p m k n : Int) (full moved : Bool) (w : World) (hm : MayB c s p m k = false) : Calls Try.prog 11 #[.agg #[.int .i64 c, .int .i64 s, .int .i64 p, .int .i64 m, .int .i64 k], .int .i64 n, .bool full, .bool moved] w (Win 0 0 0 0 0 120 w) := by
  have hu24 := Try.underlying24
  have hu49 := Try.underlying49
  go_enter Try.func11, Try.ntmps11
  go_wp2_with fail
  refine (asked_f c s p m k n _ hm).mono ?_
  rintro e w1 ⟨rfl, hb1⟩
  have hB1 : Below w.heap.size w w1 := (by repeat (first | with_reducible exact Below.refl _ _ | with_reducible assumption | with_reducible refine Below.drew ?_ | with_reducible refine below_dN ?_ _ | with_reducible refine Below.setCell ?_ (by first | omega | (simp; done) | (simp; omega)) _ | with_reducible refine below_al ?_ (by first | omega | (simp; done) | (simp; omega)) _ | exact Below.refl _ _ | assumption | refine Below.drew ?_ | refine below_dN ?_ _ | refine Below.setCell ?_ (by first | omega | (simp; done) | (simp; omega)) _ | refine below_al ?_ (by first | omega | (simp; done) | (simp; omega)) _ | refine below_tr (by assumption) ?_ (by first | omega | (simp; done) | (simp; omega))))
  have z1 : w.heap.size + 1 < w1.heap.size := by have := hb1.size; simp at this; omega
  have hx := (hb1.block (w.heap.size) (by first | omega | (simp; done) | (simp; omega))).trans (show ((w.alloc (.cells #[.int .i64 c, .int .i64 s, .int .i64 p, .int .i64 m, .int .i64 k] 24)).alloc (.cells #[.int .i64 0, .int .i64 0, .int .i64 0, .int .i64 0, .int .i64 0] 24)).heap[w.heap.size]? = some _ by rw [al_old _ _ _ (by first | omega | (simp; done) | (simp; omega)), al_new _ _ _ (by first | omega | (simp; done) | (simp; omega))])
  have hy := (hb1.block (w.heap.size + 1) (by first | omega | (simp; done) | (simp; omega))).trans (show ((w.alloc (.cells #[.int .i64 c, .int .i64 s, .int .i64 p, .int .i64 m, .int .i64 k] 24)).alloc (.cells #[.int .i64 0, .int .i64 0, .int .i64 0, .int .i64 0, .int .i64 0] 24)).heap[w.heap.size + 1]? = some _ by rw [al_new _ _ _ (by first | omega | (simp; done) | (simp; omega))])
  clear hb1
  obtain ⟨⟨x0, x1, x2, x3, x4⟩, xf⟩ := five hx
  have xf0 := xf 0
  have xf2 := xf 2
  clear hx xf
  obtain ⟨⟨y0, y1, y2, y3, y4⟩, yf⟩ := five hy
  have yf0 := yf 0
  have yf1 := yf 1
  have yf2 := yf 2
  have yf3 := yf 3
  have yf4 := yf 4
  clear hy yf
  go_wp2
  exact bodyPost_ret (v := .tuple #[.agg #[.int .i64 0, .int .i64 0, .int .i64 0, .int .i64 0, .int .i64 0], .int .i64 120]) (by simp [results, Try.results11, go_sem, y0, y1, y2, y3, y4]) rfl ⟨rfl, by (repeat (refine Below.setCell ?_ (by first | omega | (simp; done) | (simp; omega)) _)); exact hB1⟩
set_option maxHeartbeats 1000000 in
theorem rack_r (c s p m k n : Int) (full moved : Bool) (w : World) (hm : MayB c s p m k = true) (hn : inB n 0 1073741824 = false) : Calls Try.prog 11 #[.agg #[.int .i64 c, .int .i64 s, .int .i64 p, .int .i64 m, .int .i64 k], .int .i64 n, .bool full, .bool moved] w (Win 0 0 0 0 0 5 w) := by
  have hu24 := Try.underlying24
  have hu49 := Try.underlying49
  go_enter Try.func11, Try.ntmps11
  go_wp2_with fail
  refine (asked_r c s p m k n _ hm hn).mono ?_
  rintro e w1 ⟨rfl, hb1⟩
  have hB1 : Below w.heap.size w w1 := (by repeat (first | with_reducible exact Below.refl _ _ | with_reducible assumption | with_reducible refine Below.drew ?_ | with_reducible refine below_dN ?_ _ | with_reducible refine Below.setCell ?_ (by first | omega | (simp; done) | (simp; omega)) _ | with_reducible refine below_al ?_ (by first | omega | (simp; done) | (simp; omega)) _ | exact Below.refl _ _ | assumption | refine Below.drew ?_ | refine below_dN ?_ _ | refine Below.setCell ?_ (by first | omega | (simp; done) | (simp; omega)) _ | refine below_al ?_ (by first | omega | (simp; done) | (simp; omega)) _ | refine below_tr (by assumption) ?_ (by first | omega | (simp; done) | (simp; omega))))
  have z1 : w.heap.size + 1 < w1.heap.size := by have := hb1.size; simp at this; omega
  have hx := (hb1.block (w.heap.size) (by first | omega | (simp; done) | (simp; omega))).trans (show ((w.alloc (.cells #[.int .i64 c, .int .i64 s, .int .i64 p, .int .i64 m, .int .i64 k] 24)).alloc (.cells #[.int .i64 0, .int .i64 0, .int .i64 0, .int .i64 0, .int .i64 0] 24)).heap[w.heap.size]? = some _ by rw [al_old _ _ _ (by first | omega | (simp; done) | (simp; omega)), al_new _ _ _ (by first | omega | (simp; done) | (simp; omega))])
  have hy := (hb1.block (w.heap.size + 1) (by first | omega | (simp; done) | (simp; omega))).trans (show ((w.alloc (.cells #[.int .i64 c, .int .i64 s, .int .i64 p, .int .i64 m, .int .i64 k] 24)).alloc (.cells #[.int .i64 0, .int .i64 0, .int .i64 0, .int .i64 0, .int .i64 0] 24)).heap[w.heap.size + 1]? = some _ by rw [al_new _ _ _ (by first | omega | (simp; done) | (simp; omega))])
  clear hb1
  obtain ⟨⟨x0, x1, x2, x3, x4⟩, xf⟩ := five hx
  have xf0 := xf 0
  have xf2 := xf 2
  clear hx xf
  obtain ⟨⟨y0, y1, y2, y3, y4⟩, yf⟩ := five hy
  have yf0 := yf 0
  have yf1 := yf 1
  have yf2 := yf 2
  have yf3 := yf 3
  have yf4 := yf 4
  clear hy yf
  go_wp2
  exact bodyPost_ret (v := .tuple #[.agg #[.int .i64 0, .int .i64 0, .int .i64 0, .int .i64 0, .int .i64 0], .int .i64 5]) (by simp [results, Try.results11, go_sem, y0, y1, y2, y3, y4]) rfl ⟨rfl, by (repeat (refine Below.setCell ?_ (by first | omega | (simp; done) | (simp; omega)) _)); exact hB1⟩
theorem rack_t (c s p m k n : Int) (full moved : Bool) (w : World) (hm : MayB c s p m k = true) (hn : inB n 0 1073741824 = true) : Calls Try.prog 11 #[.agg #[.int .i64 c, .int .i64 s, .int .i64 p, .int .i64 m, .int .i64 k], .int .i64 n, .bool full, .bool moved] w (Win (if moved = true then ackC c s p m k n full else c) s (if moved = true then ackP c s p m k n full else p) m k 0 w) := by
  have hm' := hm
  obtain ⟨q0, q1, q2, q3, q4, q5, q6, q7, q8, q9⟩ := MayB_t hm'
  obtain ⟨n0, n1⟩ := inB_t hn
  cases moved
  · exact rack_no c s p m k n full w hm hn
  · simp only [if_true]
    unfold ackC ackP
    by_cases h1 : c ≤ s
    · rw [if_pos h1, if_pos h1]
      cases full
      · have e1 : mn c k = c := by rw [mn_def, if_pos q5]
        have e2 : mn p c = p := by rw [mn_def, if_pos q9]
        have h := rack_ssn c s p m k n w hm hn h1
        rw [e1, e2] at h
        simpa using h
      · have e1 : mn (c + mn n m) k = mn k (c + mn n m) := by simp only [mn_def]; split <;> split <;> split <;> omega
        have e2 : mn p (mn k (c + mn n m)) = p := by simp only [mn_def]; repeat (first | omega | split)
        have h := rack_ssf c s p m k n w hm hn h1
        rw [e1, e2] at h
        simpa using h
    · rw [if_neg h1, if_neg h1]
      by_cases h2 : c ≤ p + n
      · rw [if_pos h2, if_pos h2]
        have h2' : ¬ p + n < c := by omega
        cases full
        · have e1 : mn c k = c := by rw [mn_def, if_pos q5]
          have e2 : mn c c = c := by rw [mn_def, if_pos (Int.le_refl _)]
          have h := rack_par c s p m k n w hm hn h1 h2'
          rw [e1, e2] at h
          simpa using h
        · have e1 : mn (c + m) k = mn k (c + m) := by simp only [mn_def]; split <;> split <;> omega
          have h := rack_ful c s p m k n w hm hn h1 h2'
          rw [e1] at h
          simpa using h
      · rw [if_neg h2, if_neg h2]
        have e1 : mn c k = c := by rw [mn_def, if_pos q5]
        have e2 : mn (p + n) c = p + n := by rw [mn_def, if_pos (by omega)]
        have h := rack_few c s p m k n full w hm hn h1 (by omega)
        rw [e1, e2] at h
        exact h
