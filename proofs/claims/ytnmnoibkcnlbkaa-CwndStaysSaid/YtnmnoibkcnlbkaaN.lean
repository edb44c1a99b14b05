/- The exported functions of layer 12, and the reference's. -/
import Derived.Test.YtnmnoibkcnlbkaaI
import Derived.Test.YtnmnoibkcnlbkaaG
namespace Go.Proofs.Ytnmnoibkcnlbkaa.C
open Go.RowKit
set_option linter.unusedVariables false
set_option linter.unusedSimpArgs false
attribute [local go_sem high] max2_mx min2_mn max_two min_two
attribute [local go_sem ↓] Go.wp_at_zero Go.wp_at_succ

theorem al_old (w : World) (A : Obj) (j : Nat) (h : j < w.heap.size) : (w.alloc A).heap[j]? = w.heap[j]? :=
  ((Below.refl w.heap.size w).alloc (Nat.le_refl _) A).block j h
theorem al_new (w : World) (A : Obj) (j : Nat) (h : j = w.heap.size) : (w.alloc A).heap[j]? = some A := by subst h; exact heap_alloc_new w A
theorem check_t (c s p m k : Int) (w : World) (hm : MayB c s p m k = true) : Calls Try.prog 16 #[.agg #[.int .i64 c, .int .i64 s, .int .i64 p, .int .i64 m, .int .i64 k]] w fun e w' => e = .returned (.int .i64 0) ∧ Below w.heap.size w w' := by
  have h := check c s p m k w
  unfold chkV at h
  rwa [if_pos hm] at h
theorem check_f (c s p m k : Int) (w : World) (hm : MayB c s p m k = false) : Calls Try.prog 16 #[.agg #[.int .i64 c, .int .i64 s, .int .i64 p, .int .i64 m, .int .i64 k]] w fun e w' => e = .returned (.int .i64 120) ∧ Below w.heap.size w w' := by
  have h := check c s p m k w
  unfold chkV at h
  rwa [if_neg (by rw [hm]; simp)] at h
set_option maxHeartbeats 1000000 in
theorem asked_f (c s p m k n : Int) (w : World) (hm : MayB c s p m k = false) : Calls Try.prog 31 #[.agg #[.int .i64 c, .int .i64 s, .int .i64 p, .int .i64 m, .int .i64 k], .int .i64 n] w fun e w' => e = .returned (.int .i64 120) ∧ Below w.heap.size w w' := by
  have hu24 := Try.underlying24
  have hu49 := Try.underlying49
  all_goals
    go_enter Try.func31, Try.ntmps31
    go_wp2_with fail
    refine (rmay c s p m k _).mono ?_
    rw [hm]
    rintro e w1 ⟨rfl, hb1⟩
    obtain ⟨hc, hf⟩ := bcell hb1
    go_wp2
    go_ret
    exact ⟨rfl, (by repeat (first | with_reducible exact Below.refl _ _ | with_reducible assumption | with_reducible refine Below.drew ?_ | with_reducible refine below_dN ?_ _ | with_reducible refine Below.setCell ?_ (by first | omega | (simp; done) | (simp; omega)) _ | with_reducible refine below_al ?_ (by first | omega | (simp; done) | (simp; omega)) _ | exact Below.refl _ _ | assumption | refine Below.drew ?_ | refine below_dN ?_ _ | refine Below.setCell ?_ (by first | omega | (simp; done) | (simp; omega)) _ | refine below_al ?_ (by first | omega | (simp; done) | (simp; omega)) _ | refine below_tr (by assumption) ?_ (by first | omega | (simp; done) | (simp; omega))))⟩
set_option maxHeartbeats 1000000 in
theorem asked_r (c s p m k n : Int) (w : World) (hm : MayB c s p m k = true) (hn : inB n 0 1073741824 = false) : Calls Try.prog 31 #[.agg #[.int .i64 c, .int .i64 s, .int .i64 p, .int .i64 m, .int .i64 k], .int .i64 n] w fun e w' => e = .returned (.int .i64 5) ∧ Below w.heap.size w w' := by
  have hu24 := Try.underlying24
  have hu49 := Try.underlying49
  have hx := inB_f hn
  by_cases h0 : n < 0
  all_goals
    go_enter Try.func31, Try.ntmps31
    go_wp2_with fail
    refine (rmay c s p m k _).mono ?_
    rw [hm]
    rintro e w1 ⟨rfl, hb1⟩
    obtain ⟨hc, hf⟩ := bcell hb1
    go_wp2
    go_ret
    exact ⟨rfl, (by repeat (first | with_reducible exact Below.refl _ _ | with_reducible assumption | with_reducible refine Below.drew ?_ | with_reducible refine below_dN ?_ _ | with_reducible refine Below.setCell ?_ (by first | omega | (simp; done) | (simp; omega)) _ | with_reducible refine below_al ?_ (by first | omega | (simp; done) | (simp; omega)) _ | exact Below.refl _ _ | assumption | refine Below.drew ?_ | refine below_dN ?_ _ | refine Below.setCell ?_ (by first | omega | (simp; done) | (simp; omega)) _ | refine below_al ?_ (by first | omega | (simp; done) | (simp; omega)) _ | refine below_tr (by assumption) ?_ (by first | omega | (simp; done) | (simp; omega))))⟩
set_option maxHeartbeats 1000000 in
theorem asked_t (c s p m k n : Int) (w : World) (hm : MayB c s p m k = true) (hn : inB n 0 1073741824 = true) : Calls Try.prog 31 #[.agg #[.int .i64 c, .int .i64 s, .int .i64 p, .int .i64 m, .int .i64 k], .int .i64 n] w fun e w' => e = .returned (.int .i64 0) ∧ Below w.heap.size w w' := by
  have hu24 := Try.underlying24
  have hu49 := Try.underlying49
  have hx := inB_t hn
  all_goals
    go_enter Try.func31, Try.ntmps31
    go_wp2_with fail
    refine (rmay c s p m k _).mono ?_
    rw [hm]
    rintro e w1 ⟨rfl, hb1⟩
    obtain ⟨hc, hf⟩ := bcell hb1
    go_wp2
    go_ret
    exact ⟨rfl, (by repeat (first | with_reducible exact Below.refl _ _ | with_reducible assumption | with_reducible refine Below.drew ?_ | with_reducible refine below_dN ?_ _ | with_reducible refine Below.setCell ?_ (by first | omega | (simp; done) | (simp; omega)) _ | with_reducible refine below_al ?_ (by first | omega | (simp; done) | (simp; omega)) _ | exact Below.refl _ _ | assumption | refine Below.drew ?_ | refine below_dN ?_ _ | refine Below.setCell ?_ (by first | omega | (simp; done) | (simp; omega)) _ | refine below_al ?_ (by first | omega | (simp; done) | (simp; omega)) _ | refine below_tr (by assumption) ?_ (by first | omega | (simp; done) | (simp; omega))))⟩
set_option maxHeartbeats 4000000 in
theorem pgrow_f (c s p m k n : Int) (w : World) (hm : MayB c s p m k = false) : Calls Try.prog 12 #[.agg #[.int .i64 c, .int .i64 s, .int .i64 p, .int .i64 m, .int .i64 k], .int .i64 n] w (Win 0 0 0 0 0 120 w) := by
  have hu24 := Try.underlying24
  have hu49 := Try.underlying49
  go_enter Try.func12, Try.ntmps12
  go_wp2_with fail
  refine (check_f c s p m k _ hm).mono ?_
  rintro e w1 ⟨rfl, hb1⟩
  have hB1 : Below w.heap.size w w1 := (by repeat (first | with_reducible exact Below.refl _ _ | with_reducible assumption | with_reducible refine Below.drew ?_ | with_reducible refine below_dN ?_ _ | with_reducible refine Below.setCell ?_ (by first | omega | (simp; done) | (simp; omega)) _ | with_reducible refine below_al ?_ (by first | omega | (simp; done) | (simp; omega)) _ | exact Below.refl _ _ | assumption | refine Below.drew ?_ | refine below_dN ?_ _ | refine Below.setCell ?_ (by first | omega | (simp; done) | (simp; omega)) _ | refine below_al ?_ (by first | omega | (simp; done) | (simp; omega)) _ | refine below_tr (by assumption) ?_ (by first | omega | (simp; done) | (simp; omega))))
  have z1 : w.heap.size + 1 + 1 < w1.heap.size := by have := hb1.size; simp at this; omega
  have hx := (hb1.block (w.heap.size) (by first | omega | (simp; done) | (simp; omega))).trans (show (((w.alloc (.cells #[.int .i64 c, .int .i64 s, .int .i64 p, .int .i64 m, .int .i64 k] 24)).alloc (.cells #[.int .i64 n] 3)).alloc (.cells #[.int .i64 0, .int .i64 0, .int .i64 0, .int .i64 0, .int .i64 0] 24)).heap[w.heap.size]? = some _ by rw [al_old _ _ _ (by first | omega | (simp; done) | (simp; omega)), al_old _ _ _ (by first | omega | (simp; done) | (simp; omega)), al_new _ _ _ (by first | omega | (simp; done) | (simp; omega))])
  have hnn := (hb1.block (w.heap.size + 1) (by first | omega | (simp; done) | (simp; omega))).trans (show (((w.alloc (.cells #[.int .i64 c, .int .i64 s, .int .i64 p, .int .i64 m, .int .i64 k] 24)).alloc (.cells #[.int .i64 n] 3)).alloc (.cells #[.int .i64 0, .int .i64 0, .int .i64 0, .int .i64 0, .int .i64 0] 24)).heap[w.heap.size + 1]? = some _ by rw [al_old _ _ _ (by first | omega | (simp; done) | (simp; omega)), al_new _ _ _ (by first | omega | (simp; done) | (simp; omega))])
  have hy := (hb1.block (w.heap.size + 1 + 1) (by first | omega | (simp; done) | (simp; omega))).trans (show (((w.alloc (.cells #[.int .i64 c, .int .i64 s, .int .i64 p, .int .i64 m, .int .i64 k] 24)).alloc (.cells #[.int .i64 n] 3)).alloc (.cells #[.int .i64 0, .int .i64 0, .int .i64 0, .int .i64 0, .int .i64 0] 24)).heap[w.heap.size + 1 + 1]? = some _ by rw [al_new _ _ _ (by first | omega | (simp; done) | (simp; omega))])
  clear hb1
  obtain ⟨⟨x0, x1, x2, x3, x4⟩, xf⟩ := five hx
  have v0 := cell_of_row w1 _ 0 _ 3 (0, 0) hnn
  clear xf
  go_wp2_with fail
  refine (changed_no _ c s p m k _ hm).mono ?_
  rintro e w2 ⟨rfl, hb2⟩
  have hB2 : Below w.heap.size w w2 := below_tr hb2 hB1 (Nat.le_refl _)
  have hy2 := (hb2.block (w.heap.size + 1 + 1) (by omega)).trans hy
  have z2 : w.heap.size + 1 + 1 < w2.heap.size := by have := hb2.size; omega
  clear hb2 hy hx hnn v0 x0 x1 x2 x3 x4
  obtain ⟨⟨y0, y1, y2, y3, y4⟩, yf⟩ := five hy2
  have yf0 := yf 0
  have yf1 := yf 1
  have yf2 := yf 2
  have yf3 := yf 3
  have yf4 := yf 4
  clear hy2 yf
  go_wp2
  exact bodyPost_ret (v := .tuple #[.agg #[.int .i64 0, .int .i64 0, .int .i64 0, .int .i64 0, .int .i64 0], .int .i64 120]) (by simp [results, Try.results12, go_sem, y0, y1, y2, y3, y4]) rfl ⟨rfl, by (repeat (refine Below.setCell ?_ (by first | omega | (simp; done) | (simp; omega)) _)); exact hB2⟩
set_option maxHeartbeats 4000000 in
theorem pgrow_r (c s p m k n : Int) (w : World) (hm : MayB c s p m k = true) (hn : inB n 0 1073741824 = false) : Calls Try.prog 12 #[.agg #[.int .i64 c, .int .i64 s, .int .i64 p, .int .i64 m, .int .i64 k], .int .i64 n] w (Win 0 0 0 0 0 5 w) := by
  have hu24 := Try.underlying24
  have hu49 := Try.underlying49
  obtain ⟨q0, q1, q2, q3, q4, q5, q6, q7, q8, q9⟩ := MayB_t hm
  go_enter Try.func12, Try.ntmps12
  go_wp2_with fail
  refine (check_t c s p m k _ hm).mono ?_
  rintro e w1 ⟨rfl, hb1⟩
  have hB1 : Below w.heap.size w w1 := (by repeat (first | with_reducible exact Below.refl _ _ | with_reducible assumption | with_reducible refine Below.drew ?_ | with_reducible refine below_dN ?_ _ | with_reducible refine Below.setCell ?_ (by first | omega | (simp; done) | (simp; omega)) _ | with_reducible refine below_al ?_ (by first | omega | (simp; done) | (simp; omega)) _ | exact Below.refl _ _ | assumption | refine Below.drew ?_ | refine below_dN ?_ _ | refine Below.setCell ?_ (by first | omega | (simp; done) | (simp; omega)) _ | refine below_al ?_ (by first | omega | (simp; done) | (simp; omega)) _ | refine below_tr (by assumption) ?_ (by first | omega | (simp; done) | (simp; omega))))
  have z1 : w.heap.size + 1 + 1 < w1.heap.size := by have := hb1.size; simp at this; omega
  have hx := (hb1.block (w.heap.size) (by first | omega | (simp; done) | (simp; omega))).trans (show (((w.alloc (.cells #[.int .i64 c, .int .i64 s, .int .i64 p, .int .i64 m, .int .i64 k] 24)).alloc (.cells #[.int .i64 n] 3)).alloc (.cells #[.int .i64 0, .int .i64 0, .int .i64 0, .int .i64 0, .int .i64 0] 24)).heap[w.heap.size]? = some _ by rw [al_old _ _ _ (by first | omega | (simp; done) | (simp; omega)), al_old _ _ _ (by first | omega | (simp; done) | (simp; omega)), al_new _ _ _ (by first | omega | (simp; done) | (simp; omega))])
  have hnn := (hb1.block (w.heap.size + 1) (by first | omega | (simp; done) | (simp; omega))).trans (show (((w.alloc (.cells #[.int .i64 c, .int .i64 s, .int .i64 p, .int .i64 m, .int .i64 k] 24)).alloc (.cells #[.int .i64 n] 3)).alloc (.cells #[.int .i64 0, .int .i64 0, .int .i64 0, .int .i64 0, .int .i64 0] 24)).heap[w.heap.size + 1]? = some _ by rw [al_old _ _ _ (by first | omega | (simp; done) | (simp; omega)), al_new _ _ _ (by first | omega | (simp; done) | (simp; omega))])
  have hy := (hb1.block (w.heap.size + 1 + 1) (by first | omega | (simp; done) | (simp; omega))).trans (show (((w.alloc (.cells #[.int .i64 c, .int .i64 s, .int .i64 p, .int .i64 m, .int .i64 k] 24)).alloc (.cells #[.int .i64 n] 3)).alloc (.cells #[.int .i64 0, .int .i64 0, .int .i64 0, .int .i64 0, .int .i64 0] 24)).heap[w.heap.size + 1 + 1]? = some _ by rw [al_new _ _ _ (by first | omega | (simp; done) | (simp; omega))])
  clear hb1
  obtain ⟨⟨x0, x1, x2, x3, x4⟩, xf⟩ := five hx
  have v0 := cell_of_row w1 _ 0 _ 3 (0, 0) hnn
  clear xf
  go_wp2_with fail
  refine (within n 0 1073741824 _).mono ?_
  rw [hn]
  rintro e w' ⟨rfl, rfl⟩
  obtain ⟨⟨y0, y1, y2, y3, y4⟩, yf⟩ := five hy
  have yf0 := yf 0
  have yf1 := yf 1
  have yf2 := yf 2
  have yf3 := yf 3
  have yf4 := yf 4
  clear hy yf
  go_wp2
  exact bodyPost_ret (v := .tuple #[.agg #[.int .i64 0, .int .i64 0, .int .i64 0, .int .i64 0, .int .i64 0], .int .i64 5]) (by simp [results, Try.results12, go_sem, y0, y1, y2, y3, y4]) rfl ⟨rfl, by (repeat (refine Below.setCell ?_ (by first | omega | (simp; done) | (simp; omega)) _)); exact hB1⟩
set_option maxHeartbeats 4000000 in
theorem pgrow_t (c s p m k n : Int) (w : World) (hm : MayB c s p m k = true) (hn : inB n 0 1073741824 = true) : Calls Try.prog 12 #[.agg #[.int .i64 c, .int .i64 s, .int .i64 p, .int .i64 m, .int .i64 k], .int .i64 n] w (Win (mn k (c + n)) s p m k 0 w) := by
  have hu24 := Try.underlying24
  have hu49 := Try.underlying49
  obtain ⟨q0, q1, q2, q3, q4, q5, q6, q7, q8, q9⟩ := MayB_t hm
  obtain ⟨n0, n1⟩ := inB_t hn
  go_enter Try.func12, Try.ntmps12
  go_wp2_with fail
  refine (check_t c s p m k _ hm).mono ?_
  rintro e w1 ⟨rfl, hb1⟩
  have hB1 : Below w.heap.size w w1 := (by repeat (first | with_reducible exact Below.refl _ _ | with_reducible assumption | with_reducible refine Below.drew ?_ | with_reducible refine below_dN ?_ _ | with_reducible refine Below.setCell ?_ (by first | omega | (simp; done) | (simp; omega)) _ | with_reducible refine below_al ?_ (by first | omega | (simp; done) | (simp; omega)) _ | exact Below.refl _ _ | assumption | refine Below.drew ?_ | refine below_dN ?_ _ | refine Below.setCell ?_ (by first | omega | (simp; done) | (simp; omega)) _ | refine below_al ?_ (by first | omega | (simp; done) | (simp; omega)) _ | refine below_tr (by assumption) ?_ (by first | omega | (simp; done) | (simp; omega))))
  have z1 : w.heap.size + 1 + 1 < w1.heap.size := by have := hb1.size; simp at this; omega
  have hx := (hb1.block (w.heap.size) (by first | omega | (simp; done) | (simp; omega))).trans (show (((w.alloc (.cells #[.int .i64 c, .int .i64 s, .int .i64 p, .int .i64 m, .int .i64 k] 24)).alloc (.cells #[.int .i64 n] 3)).alloc (.cells #[.int .i64 0, .int .i64 0, .int .i64 0, .int .i64 0, .int .i64 0] 24)).heap[w.heap.size]? = some _ by rw [al_old _ _ _ (by first | omega | (simp; done) | (simp; omega)), al_old _ _ _ (by first | omega | (simp; done) | (simp; omega)), al_new _ _ _ (by first | omega | (simp; done) | (simp; omega))])
  have hnn := (hb1.block (w.heap.size + 1) (by first | omega | (simp; done) | (simp; omega))).trans (show (((w.alloc (.cells #[.int .i64 c, .int .i64 s, .int .i64 p, .int .i64 m, .int .i64 k] 24)).alloc (.cells #[.int .i64 n] 3)).alloc (.cells #[.int .i64 0, .int .i64 0, .int .i64 0, .int .i64 0, .int .i64 0] 24)).heap[w.heap.size + 1]? = some _ by rw [al_old _ _ _ (by first | omega | (simp; done) | (simp; omega)), al_new _ _ _ (by first | omega | (simp; done) | (simp; omega))])
  have hy := (hb1.block (w.heap.size + 1 + 1) (by first | omega | (simp; done) | (simp; omega))).trans (show (((w.alloc (.cells #[.int .i64 c, .int .i64 s, .int .i64 p, .int .i64 m, .int .i64 k] 24)).alloc (.cells #[.int .i64 n] 3)).alloc (.cells #[.int .i64 0, .int .i64 0, .int .i64 0, .int .i64 0, .int .i64 0] 24)).heap[w.heap.size + 1 + 1]? = some _ by rw [al_new _ _ _ (by first | omega | (simp; done) | (simp; omega))])
  clear hb1
  obtain ⟨⟨x0, x1, x2, x3, x4⟩, xf⟩ := five hx
  have v0 := cell_of_row w1 _ 0 _ 3 (0, 0) hnn
  clear xf
  go_wp2_with fail
  refine (within n 0 1073741824 _).mono ?_
  rw [hn]
  rintro e w' ⟨rfl, rfl⟩
  go_wp2_with fail
  refine (changed_grow ⟨w.heap.size + 1, 0, none⟩ c s p m k _ _ _ _ hm (fun w2 g hb hx => grow1 g c s p m k n _ w2 hx ((hb.cell (p := ⟨w.heap.size + 1, 0, none⟩) (by show w.heap.size + 1 < _; omega)).trans v0) (by omega) (by omega) n0 n1)).mono ?_
  rintro e w2 ⟨rfl, hb2⟩
  have hB2 : Below w.heap.size w w2 := below_tr hb2 hB1 (Nat.le_refl _)
  have hy2 := (hb2.block (w.heap.size + 1 + 1) (by omega)).trans hy
  have z2 : w.heap.size + 1 + 1 < w2.heap.size := by have := hb2.size; omega
  clear hb2 hy hx hnn v0 x0 x1 x2 x3 x4
  obtain ⟨⟨y0, y1, y2, y3, y4⟩, yf⟩ := five hy2
  have yf0 := yf 0
  have yf1 := yf 1
  have yf2 := yf 2
  have yf3 := yf 3
  have yf4 := yf 4
  clear hy2 yf
  go_wp2
  exact bodyPost_ret (v := .tuple #[.agg #[.int .i64 (mn k (c + n)), .int .i64 s, .int .i64 p, .int .i64 m, .int .i64 k], .int .i64 0]) (by simp [results, Try.results12, go_sem, y0, y1, y2, y3, y4]) rfl ⟨rfl, by (repeat (refine Below.setCell ?_ (by first | omega | (simp; done) | (simp; omega)) _)); exact hB2⟩
set_option maxHeartbeats 1000000 in
theorem rgrow_f (c s p m k n : Int) (w : World) (hm : MayB c s p m k = false) : Calls Try.prog 13 #[.agg #[.int .i64 c, .int .i64 s, .int .i64 p, .int .i64 m, .int .i64 k], .int .i64 n] w (Win 0 0 0 0 0 120 w) := by
  have hu24 := Try.underlying24
  have hu49 := Try.underlying49
  go_enter Try.func13, Try.ntmps13
  go_wp2_with fail
  refine (asked_f c s p m k n _ hm).mono ?_
  rintro e w1 ⟨rfl, hb1⟩
  have hB1 : Below w.heap.size w w1 := (by repeat (first | with_reducible exact Below.refl _ _ | with_reducible assumption | with_reducible refine Below.drew ?_ | with_reducible refine below_dN ?_ _ | with_reducible refine Below.setCell ?_ (by first | omega | (simp; done) | (simp; omega)) _ | with_reducible refine below_al ?_ (by first | omega | (simp; done) | (simp; omega)) _ | exact Below.refl _ _ | assumption | refine Below.drew ?_ | refine below_dN ?_ _ | refine Below.setCell ?_ (by first | omega | (simp; done) | (simp; omega)) _ | refine below_al ?_ (by first | omega | (simp; done) | (simp; omega)) _ | refine below_tr (by assumption) ?_ (by first | omega | (simp; done) | (simp; omega))))
  have z1 : w.heap.size + 1 < w1.heap.size := by have := hb1.size; simp at this; omega
  have hx := (hb1.block (w.heap.size) (by first | omega | (simp; done) | (simp; omega))).trans (show ((w.alloc (.cells #[.int .i64 c, .int .i64 s, .int .i64 p, .int .i64 m, .int .i64 k] 24)).alloc (.cells #[.int .i64 0, .int .i64 0, .int .i64 0, .int .i64 0, .int .i64 0] 24)).heap[w.heap.size]? = some _ by rw [al_old _ _ _ (by first | omega | (simp; done) | (simp; omega)), al_new _ _ _ (by first | omega | (simp; done) | (simp; omega))])
  have hy := (hb1.block (w.heap.size + 1) (by first | omega | (simp; done) | (simp; omega))).trans (show ((w.alloc (.cells #[.int .i64 c, .int .i64 s, .int .i64 p, .int .i64 m, .int .i64 k] 24)).alloc (.cells #[.int .i64 0, .int .i64 0, .int .i64 0, .int .i64 0, .int .i64 0] 24)).heap[w.heap.size + 1]? = some _ by rw [al_new _ _ _ (by first | omega | (simp; done) | (simp; omega))])
  clear hb1
  obtain ⟨⟨x0, x1, x2, x3, x4⟩, xf⟩ := five hx
  have xf0 := xf 0
  have xf2 := xf 2
  clear hx xf
  obtain ⟨⟨y0, y1, y2, y3, y4⟩, yf⟩ := five hy
  have yf0 := yf 0
  have yf1 := yf 1
  have yf2 := yf 2
  have yf3 := yf 3
  have yf4 := yf 4
  clear hy yf
  go_wp2
  exact bodyPost_ret (v := .tuple #[.agg #[.int .i64 0, .int .i64 0, .int .i64 0, .int .i64 0, .int .i64 0], .int .i64 120]) (by simp [results, Try.results13, go_sem, y0, y1, y2, y3, y4]) rfl ⟨rfl, by (repeat (refine Below.setCell ?_ (by first | omega | (simp; done) | (simp; omega)) _)); exact hB1⟩
set_option maxHeartbeats 1000000 in
theorem rgrow_r (c s p m k n : Int) (w : World) (hm : MayB c s p m k = true) (hn : inB n 0 1073741824 = false) : Calls Try.prog 13 #[.agg #[.int .i64 c, .int .i64 s, .int .i64 p, .int .i64 m, .int .i64 k], .int .i64 n] w (Win 0 0 0 0 0 5 w) := by
  have hu24 := Try.underlying24
  have hu49 := Try.underlying49
  go_enter Try.func13, Try.ntmps13
  go_wp2_with fail
  refine (asked_r c s p m k n _ hm hn).mono ?_
  rintro e w1 ⟨rfl, hb1⟩
  have hB1 : Below w.heap.size w w1 := (by repeat (first | with_reducible exact Below.refl _ _ | with_reducible assumption | with_reducible refine Below.drew ?_ | with_reducible refine below_dN ?_ _ | with_reducible refine Below.setCell ?_ (by first | omega | (simp; done) | (simp; omega)) _ | with_reducible refine below_al ?_ (by first | omega | (simp; done) | (simp; omega)) _ | exact Below.refl _ _ | assumption | refine Below.drew ?_ | refine below_dN ?_ _ | refine Below.setCell ?_ (by first | omega | (simp; done) | (simp; omega)) _ | refine below_al ?_ (by first | omega | (simp; done) | (simp; omega)) _ | refine below_tr (by assumption) ?_ (by first | omega | (simp; done) | (simp; omega))))
  have z1 : w.heap.size + 1 < w1.heap.size := by have := hb1.size; simp at this; omega
  have hx := (hb1.block (w.heap.size) (by first | omega | (simp; done) | (simp; omega))).trans (show ((w.alloc (.cells #[.int .i64 c, .int .i64 s, .int .i64 p, .int .i64 m, .int .i64 k] 24)).alloc (.cells #[.int .i64 0, .int .i64 0, .int .i64 0, .int .i64 0, .int .i64 0] 24)).heap[w.heap.size]? = some _ by rw [al_old _ _ _ (by first | omega | (simp; done) | (simp; omega)), al_new _ _ _ (by first | omega | (simp; done) | (simp; omega))])
  have hy := (hb1.block (w.heap.size + 1) (by first | omega | (simp; done) | (simp; omega))).trans (show ((w.alloc (.cells #[.int .i64 c, .int .i64 s, .int .i64 p, .int .i64 m, .int .i64 k] 24)).alloc (.cells #[.int .i64 0, .int .i64 0, .int .i64 0, .int .i64 0, .int .i64 0] 24)).heap[w.heap.size + 1]? = some _ by rw [al_new _ _ _ (by first | omega | (simp; done) | (simp; omega))])
  clear hb1
  obtain ⟨⟨x0, x1, x2, x3, x4⟩, xf⟩ := five hx
  have xf0 := xf 0
  have xf2 := xf 2
  clear hx xf
  obtain ⟨⟨y0, y1, y2, y3, y4⟩, yf⟩ := five hy
  have yf0 := yf 0
  have yf1 := yf 1
  have yf2 := yf 2
  have yf3 := yf 3
  have yf4 := yf 4
  clear hy yf
  go_wp2
  exact bodyPost_ret (v := .tuple #[.agg #[.int .i64 0, .int .i64 0, .int .i64 0, .int .i64 0, .int .i64 0], .int .i64 5]) (by simp [results, Try.results13, go_sem, y0, y1, y2, y3, y4]) rfl ⟨rfl, by (repeat (refine Below.setCell ?_ (by first | omega | (simp; done) | (simp; omega)) _)); exact hB1⟩
set_option maxHeartbeats 1000000 in
theorem rgrow_t (c s p m k n : Int) (w : World) (hm : MayB c s p m k = true) (hn : inB n 0 1073741824 = true) : Calls Try.prog 13 #[.agg #[.int .i64 c, .int .i64 s, .int .i64 p, .int .i64 m, .int .i64 k], .int .i64 n] w (Win (mn k (c + n)) s p m k 0 w) := by
  have hu24 := Try.underlying24
  have hu49 := Try.underlying49
  obtain ⟨q0, q1, q2, q3, q4, q5, q6, q7, q8, q9⟩ := MayB_t hm
  obtain ⟨n0, n1⟩ := inB_t hn
  have hcomm : mn (c + n) k = mn k (c + n) := by simp only [mn_def]; split <;> split <;> omega
  have HC := Lib.hid hcomm
  clear hcomm
  go_enter Try.func13, Try.ntmps13
  go_wp2_with fail
  refine (asked_t c s p m k n _ hm hn).mono ?_
  rintro e w1 ⟨rfl, hb1⟩
  have hB1 : Below w.heap.size w w1 := (by repeat (first | with_reducible exact Below.refl _ _ | with_reducible assumption | with_reducible refine Below.drew ?_ | with_reducible refine below_dN ?_ _ | with_reducible refine Below.setCell ?_ (by first | omega | (simp; done) | (simp; omega)) _ | with_reducible refine below_al ?_ (by first | omega | (simp; done) | (simp; omega)) _ | exact Below.refl _ _ | assumption | refine Below.drew ?_ | refine below_dN ?_ _ | refine Below.setCell ?_ (by first | omega | (simp; done) | (simp; omega)) _ | refine below_al ?_ (by first | omega | (simp; done) | (simp; omega)) _ | refine below_tr (by assumption) ?_ (by first | omega | (simp; done) | (simp; omega))))
  have z1 : w.heap.size + 1 < w1.heap.size := by have := hb1.size; simp at this; omega
  have hx := (hb1.block (w.heap.size) (by first | omega | (simp; done) | (simp; omega))).trans (show ((w.alloc (.cells #[.int .i64 c, .int .i64 s, .int .i64 p, .int .i64 m, .int .i64 k] 24)).alloc (.cells #[.int .i64 0, .int .i64 0, .int .i64 0, .int .i64 0, .int .i64 0] 24)).heap[w.heap.size]? = some _ by rw [al_old _ _ _ (by first | omega | (simp; done) | (simp; omega)), al_new _ _ _ (by first | omega | (simp; done) | (simp; omega))])
  have hy := (hb1.block (w.heap.size + 1) (by first | omega | (simp; done) | (simp; omega))).trans (show ((w.alloc (.cells #[.int .i64 c, .int .i64 s, .int .i64 p, .int .i64 m, .int .i64 k] 24)).alloc (.cells #[.int .i64 0, .int .i64 0, .int .i64 0, .int .i64 0, .int .i64 0] 24)).heap[w.heap.size + 1]? = some _ by rw [al_new _ _ _ (by first | omega | (simp; done) | (simp; omega))])
  clear hb1
  obtain ⟨⟨x0, x1, x2, x3, x4⟩, xf⟩ := five hx
  have xf0 := xf 0
  have xf2 := xf 2
  clear hx xf
  obtain ⟨⟨y0, y1, y2, y3, y4⟩, yf⟩ := five hy
  have yf0 := yf 0
  have yf1 := yf 1
  have yf2 := yf 2
  have yf3 := yf 3
  have yf4 := yf 4
  clear hy yf
  go_wp2
  exact bodyPost_ret (v := .tuple #[.agg #[.int .i64 (mn (c + n) k), .int .i64 s, .int .i64 p, .int .i64 m, .int .i64 k], .int .i64 0]) (by simp [results, Try.results13, go_sem, y0, y1, y2, y3, y4]) rfl ⟨by rw [HC.out], by (repeat (refine Below.setCell ?_ (by first | omega | (simp; done) | (simp; omega)) _)); exact hB1⟩
