/- The exported functions of layer 12, and the reference's. -/
import Derived.Test.YtnmnoibkcnlbkaaQ
import Derived.Test.YtnmnoibkcnlbkaaJ
import Derived.Test.YtnmnoibkcnlbkaaL
import Derived.Test.YtnmnoibkcnlbkaaM
namespace Go.Proofs.Ytnmnoibkcnlbkaa.C
open Go.RowKit
set_option linter.unusedVariables false
set_option linter.unusedSimpArgs false
attribute [local go_sem high] max2_mx min2_mn max_two min_two
attribute [local go_sem ↓] Go.wp_at_zero Go.wp_at_succ

theorem fast_same (c s p m k : Int) : ∃ c' s' p' m' k' er : Int, (∀ w, Calls Try.prog 20 #[.agg #[.int .i64 c, .int .i64 s, .int .i64 p, .int .i64 m, .int .i64 k]] w (Win c' s' p' m' k' er w)) ∧ (∀ w, Calls Try.prog 21 #[.agg #[.int .i64 c, .int .i64 s, .int .i64 p, .int .i64 m, .int .i64 k]] w (Win c' s' p' m' k' er w)) := by
  cases hm : MayB c s p m k
  · exact ⟨_, _, _, _, _, _, fun w => pfast_f c s p m k w hm, fun w => rfast_f c s p m k w hm⟩
  · exact ⟨_, _, _, _, _, _, fun w => pfast_t c s p m k w hm, fun w => rfast_t c s p m k w hm⟩
theorem timeout_same (c s p m k : Int) : ∃ c' s' p' m' k' er : Int, (∀ w, Calls Try.prog 22 #[.agg #[.int .i64 c, .int .i64 s, .int .i64 p, .int .i64 m, .int .i64 k]] w (Win c' s' p' m' k' er w)) ∧ (∀ w, Calls Try.prog 23 #[.agg #[.int .i64 c, .int .i64 s, .int .i64 p, .int .i64 m, .int .i64 k]] w (Win c' s' p' m' k' er w)) := by
  cases hm : MayB c s p m k
  · exact ⟨_, _, _, _, _, _, fun w => ptimeout_f c s p m k w hm, fun w => rtimeout_f c s p m k w hm⟩
  · exact ⟨_, _, _, _, _, _, fun w => ptimeout_t c s p m k w hm, fun w => rtimeout_t c s p m k w hm⟩
theorem idle_same (c s p m k : Int) : ∃ c' s' p' m' k' er : Int, (∀ w, Calls Try.prog 24 #[.agg #[.int .i64 c, .int .i64 s, .int .i64 p, .int .i64 m, .int .i64 k]] w (Win c' s' p' m' k' er w)) ∧ (∀ w, Calls Try.prog 25 #[.agg #[.int .i64 c, .int .i64 s, .int .i64 p, .int .i64 m, .int .i64 k]] w (Win c' s' p' m' k' er w)) := by
  cases hm : MayB c s p m k
  · exact ⟨_, _, _, _, _, _, fun w => pidle_f c s p m k w hm, fun w => ridle_f c s p m k w hm⟩
  · have e : mn (mx (c / 2) (4 * m)) c = mn c (mx (c / 2) (4 * m)) := by simp only [mn_def]; split <;> split <;> omega
    exact ⟨_, _, _, _, _, _, fun w => pidle_t c s p m k w hm, fun w => by have h := ridle_t c s p m k w hm; rw [e] at h; exact h⟩
theorem grow_same (c s p m k n : Int) : ∃ c' s' p' m' k' er : Int, (∀ w, Calls Try.prog 12 #[.agg #[.int .i64 c, .int .i64 s, .int .i64 p, .int .i64 m, .int .i64 k], .int .i64 n] w (Win c' s' p' m' k' er w)) ∧ (∀ w, Calls Try.prog 13 #[.agg #[.int .i64 c, .int .i64 s, .int .i64 p, .int .i64 m, .int .i64 k], .int .i64 n] w (Win c' s' p' m' k' er w)) := by
  cases hm : MayB c s p m k
  · exact ⟨_, _, _, _, _, _, fun w => pgrow_f c s p m k n w hm, fun w => rgrow_f c s p m k n w hm⟩
  · cases hn : inB n 0 1073741824
    · exact ⟨_, _, _, _, _, _, fun w => pgrow_r c s p m k n w hm hn, fun w => rgrow_r c s p m k n w hm hn⟩
    · exact ⟨_, _, _, _, _, _, fun w => pgrow_t c s p m k n w hm hn, fun w => rgrow_t c s p m k n w hm hn⟩
theorem ack_same (c s p m k n : Int) (full moved : Bool) : ∃ c' s' p' m' k' er : Int, (∀ w, Calls Try.prog 10 #[.agg #[.int .i64 c, .int .i64 s, .int .i64 p, .int .i64 m, .int .i64 k], .int .i64 n, .bool full, .bool moved] w (Win c' s' p' m' k' er w)) ∧ (∀ w, Calls Try.prog 11 #[.agg #[.int .i64 c, .int .i64 s, .int .i64 p, .int .i64 m, .int .i64 k], .int .i64 n, .bool full, .bool moved] w (Win c' s' p' m' k' er w)) := by
  cases hm : MayB c s p m k
  · exact ⟨_, _, _, _, _, _, fun w => pack_f c s p m k n full moved w hm, fun w => rack_f c s p m k n full moved w hm⟩
  · cases hn : inB n 0 1073741824
    · exact ⟨_, _, _, _, _, _, fun w => pack_r c s p m k n full moved w hm hn, fun w => rack_r c s p m k n full moved w hm hn⟩
    · exact ⟨_, _, _, _, _, _, fun w => pack_t c s p m k n full moved w hm hn, fun w => rack_t c s p m k n full moved w hm hn⟩
set_option maxHeartbeats 4000000 in
set_option maxRecDepth 100000 in
theorem walk_CwndFalls (c s p m k : Int) (w : World) : Calls Try.prog 6 #[.agg #[.int .i64 c, .int .i64 s, .int .i64 p, .int .i64 m, .int .i64 k]] w fun e w' => e = .returned (.bool true) ∧ Below w.heap.size w w' := by
  have hu24 := Try.underlying24
  obtain ⟨c0, s0, p0, m0, k0, er0, hp0, hr0⟩ := fast_same c s p m k
  have HP0 := Lib.hid hp0
  have HR0 := Lib.hid hr0
  clear hp0 hr0
  obtain ⟨c1, s1, p1, m1, k1, er1, hp1, hr1⟩ := timeout_same c s p m k
  have HP1 := Lib.hid hp1
  have HR1 := Lib.hid hr1
  clear hp1 hr1
  obtain ⟨c2, s2, p2, m2, k2, er2, hp2, hr2⟩ := idle_same c s p m k
  have HP2 := Lib.hid hp2
  have HR2 := Lib.hid hr2
  clear hp2 hr2
  go_enter Try.func6, Try.ntmps6
  go_wp2_with fail
  refine (HP0.out _).mono ?_
  rintro e w1 ⟨rfl, hb1⟩
  have hB1 : Below w.heap.size w w1 := (by repeat (first | with_reducible exact Below.refl _ _ | with_reducible assumption | with_reducible refine Below.drew ?_ | with_reducible refine below_dN ?_ _ | with_reducible refine Below.setCell ?_ (by first | omega | (simp; done) | (simp; omega)) _ | with_reducible refine below_al ?_ (by first | omega | (simp; done) | (simp; omega)) _ | exact Below.refl _ _ | assumption | refine Below.drew ?_ | refine below_dN ?_ _ | refine Below.setCell ?_ (by first | omega | (simp; done) | (simp; omega)) _ | refine below_al ?_ (by first | omega | (simp; done) | (simp; omega)) _ | refine below_tr (by assumption) ?_ (by first | omega | (simp; done) | (simp; omega))))
  have x1 := (hb1.block w.heap.size (by first | omega | (simp; done) | (simp; omega))).trans (al_new w _ _ rfl)
  have z1 : w.heap.size < w1.heap.size := by have := hb1.size; simp at this; omega
  clear hb1
  obtain ⟨⟨y0, y1, y2, y3, y4⟩, yf⟩ := five x1
  clear yf
  go_wp2_with fail
  refine (HR0.out _).mono ?_
  rintro e w2 ⟨rfl, hb2⟩
  have hB2 : Below w.heap.size w w2 := (by repeat (first | with_reducible exact Below.refl _ _ | with_reducible assumption | with_reducible refine Below.drew ?_ | with_reducible refine below_dN ?_ _ | with_reducible refine Below.setCell ?_ (by first | omega | (simp; done) | (simp; omega)) _ | with_reducible refine below_al ?_ (by first | omega | (simp; done) | (simp; omega)) _ | exact Below.refl _ _ | assumption | refine Below.drew ?_ | refine below_dN ?_ _ | refine Below.setCell ?_ (by first | omega | (simp; done) | (simp; omega)) _ | refine below_al ?_ (by first | omega | (simp; done) | (simp; omega)) _ | refine below_tr (by assumption) ?_ (by first | omega | (simp; done) | (simp; omega))))
  have z2 : w1.heap.size < w2.heap.size := by have := hb2.size; simp at this; omega
  have x2 := (hb2.block w.heap.size (by first | omega | (simp; done) | (simp; omega))).trans ((al_old w1 _ _ (by omega)).trans x1)
  have r1_2 := (hb2.block w1.heap.size (by first | omega | (simp; done) | (simp; omega))).trans (al_new w1 _ _ rfl)
  clear x1 hb2
  have zw2 : w.heap.size < w2.heap.size := by omega
  obtain ⟨⟨y0, y1, y2, y3, y4⟩, yf⟩ := five x2
  clear yf
  go_wp2_with fail
  refine (HP1.out _).mono ?_
  rintro e w3 ⟨rfl, hb3⟩
  have hB3 : Below w.heap.size w w3 := (by repeat (first | with_reducible exact Below.refl _ _ | with_reducible assumption | with_reducible refine Below.drew ?_ | with_reducible refine below_dN ?_ _ | with_reducible refine Below.setCell ?_ (by first | omega | (simp; done) | (simp; omega)) _ | with_reducible refine below_al ?_ (by first | omega | (simp; done) | (simp; omega)) _ | exact Below.refl _ _ | assumption | refine Below.drew ?_ | refine below_dN ?_ _ | refine Below.setCell ?_ (by first | omega | (simp; done) | (simp; omega)) _ | refine below_al ?_ (by first | omega | (simp; done) | (simp; omega)) _ | refine below_tr (by assumption) ?_ (by first | omega | (simp; done) | (simp; omega))))
  have z3 : w2.heap.size < w3.heap.size := by have := hb3.size; simp at this; omega
  have x3 := (hb3.block w.heap.size (by first | omega | (simp; done) | (simp; omega))).trans ((al_old w2 _ _ (by omega)).trans x2)
  have r2_3 := (hb3.block w2.heap.size (by first | omega | (simp; done) | (simp; omega))).trans (al_new w2 _ _ rfl)
  have r1_3 := (hb3.block w1.heap.size (by first | omega | (simp; done) | (simp; omega))).trans ((al_old w2 _ _ (by omega)).trans r1_2)
  clear x2 r1_2 hb3
  have zw3 : w.heap.size < w3.heap.size := by omega
  obtain ⟨⟨y0, y1, y2, y3, y4⟩, yf⟩ := five x3
  clear yf
  go_wp2_with fail
  refine (HR1.out _).mono ?_
  rintro e w4 ⟨rfl, hb4⟩
  have hB4 : Below w.heap.size w w4 := (by repeat (first | with_reducible exact Below.refl _ _ | with_reducible assumption | with_reducible refine Below.drew ?_ | with_reducible refine below_dN ?_ _ | with_reducible refine Below.setCell ?_ (by first | omega | (simp; done) | (simp; omega)) _ | with_reducible refine below_al ?_ (by first | omega | (simp; done) | (simp; omega)) _ | exact Below.refl _ _ | assumption | refine Below.drew ?_ | refine below_dN ?_ _ | refine Below.setCell ?_ (by first | omega | (simp; done) | (simp; omega)) _ | refine below_al ?_ (by first | omega | (simp; done) | (simp; omega)) _ | refine below_tr (by assumption) ?_ (by first | omega | (simp; done) | (simp; omega))))
  have z4 : w3.heap.size < w4.heap.size := by have := hb4.size; simp at this; omega
  have x4 := (hb4.block w.heap.size (by first | omega | (simp; done) | (simp; omega))).trans ((al_old w3 _ _ (by omega)).trans x3)
  have r3_4 := (hb4.block w3.heap.size (by first | omega | (simp; done) | (simp; omega))).trans (al_new w3 _ _ rfl)
  have r1_4 := (hb4.block w1.heap.size (by first | omega | (simp; done) | (simp; omega))).trans ((al_old w3 _ _ (by omega)).trans r1_3)
  have r2_4 := (hb4.block w2.heap.size (by first | omega | (simp; done) | (simp; omega))).trans ((al_old w3 _ _ (by omega)).trans r2_3)
  clear x3 r1_3 r2_3 hb4
  have zw4 : w.heap.size < w4.heap.size := by omega
  obtain ⟨⟨y0, y1, y2, y3, y4⟩, yf⟩ := five x4
  clear yf
  go_wp2_with fail
  refine (HP2.out _).mono ?_
  rintro e w5 ⟨rfl, hb5⟩
  have hB5 : Below w.heap.size w w5 := (by repeat (first | with_reducible exact Below.refl _ _ | with_reducible assumption | with_reducible refine Below.drew ?_ | with_reducible refine below_dN ?_ _ | with_reducible refine Below.setCell ?_ (by first | omega | (simp; done) | (simp; omega)) _ | with_reducible refine below_al ?_ (by first | omega | (simp; done) | (simp; omega)) _ | exact Below.refl _ _ | assumption | refine Below.drew ?_ | refine below_dN ?_ _ | refine Below.setCell ?_ (by first | omega | (simp; done) | (simp; omega)) _ | refine below_al ?_ (by first | omega | (simp; done) | (simp; omega)) _ | refine below_tr (by assumption) ?_ (by first | omega | (simp; done) | (simp; omega))))
  have z5 : w4.heap.size < w5.heap.size := by have := hb5.size; simp at this; omega
  have x5 := (hb5.block w.heap.size (by first | omega | (simp; done) | (simp; omega))).trans ((al_old w4 _ _ (by omega)).trans x4)
  have r4_5 := (hb5.block w4.heap.size (by first | omega | (simp; done) | (simp; omega))).trans (al_new w4 _ _ rfl)
  have r1_5 := (hb5.block w1.heap.size (by first | omega | (simp; done) | (simp; omega))).trans ((al_old w4 _ _ (by omega)).trans r1_4)
  have r2_5 := (hb5.block w2.heap.size (by first | omega | (simp; done) | (simp; omega))).trans ((al_old w4 _ _ (by omega)).trans r2_4)
  have r3_5 := (hb5.block w3.heap.size (by first | omega | (simp; done) | (simp; omega))).trans ((al_old w4 _ _ (by omega)).trans r3_4)
  clear x4 r1_4 r2_4 r3_4 hb5
  have zw5 : w.heap.size < w5.heap.size := by omega
  obtain ⟨⟨y0, y1, y2, y3, y4⟩, yf⟩ := five x5
  clear yf
  go_wp2_with fail
  refine (HR2.out _).mono ?_
  rintro e w6 ⟨rfl, hb6⟩
  have hB6 : Below w.heap.size w w6 := (by repeat (first | with_reducible exact Below.refl _ _ | with_reducible assumption | with_reducible refine Below.drew ?_ | with_reducible refine below_dN ?_ _ | with_reducible refine Below.setCell ?_ (by first | omega | (simp; done) | (simp; omega)) _ | with_reducible refine below_al ?_ (by first | omega | (simp; done) | (simp; omega)) _ | exact Below.refl _ _ | assumption | refine Below.drew ?_ | refine below_dN ?_ _ | refine Below.setCell ?_ (by first | omega | (simp; done) | (simp; omega)) _ | refine below_al ?_ (by first | omega | (simp; done) | (simp; omega)) _ | refine below_tr (by assumption) ?_ (by first | omega | (simp; done) | (simp; omega))))
  have z6 : w5.heap.size < w6.heap.size := by have := hb6.size; simp at this; omega
  have x6 := (hb6.block w.heap.size (by first | omega | (simp; done) | (simp; omega))).trans ((al_old w5 _ _ (by omega)).trans x5)
  have r5_6 := (hb6.block w5.heap.size (by first | omega | (simp; done) | (simp; omega))).trans (al_new w5 _ _ rfl)
  have r1_6 := (hb6.block w1.heap.size (by first | omega | (simp; done) | (simp; omega))).trans ((al_old w5 _ _ (by omega)).trans r1_5)
  have r2_6 := (hb6.block w2.heap.size (by first | omega | (simp; done) | (simp; omega))).trans ((al_old w5 _ _ (by omega)).trans r2_5)
  have r3_6 := (hb6.block w3.heap.size (by first | omega | (simp; done) | (simp; omega))).trans ((al_old w5 _ _ (by omega)).trans r3_5)
  have r4_6 := (hb6.block w4.heap.size (by first | omega | (simp; done) | (simp; omega))).trans ((al_old w5 _ _ (by omega)).trans r4_5)
  clear x5 r1_5 r2_5 r3_5 r4_5 hb6
  have zw6 : w.heap.size < w6.heap.size := by omega
  have zz1 : w1.heap.size < w6.heap.size := by omega
  have zz2 : w2.heap.size < w6.heap.size := by omega
  have zz3 : w3.heap.size < w6.heap.size := by omega
  have zz4 : w4.heap.size < w6.heap.size := by omega
  obtain ⟨⟨a1_0, a1_1, a1_2, a1_3, a1_4⟩, af1⟩ := five r1_6
  clear af1
  obtain ⟨⟨a2_0, a2_1, a2_2, a2_3, a2_4⟩, af2⟩ := five r2_6
  clear af2
  obtain ⟨⟨a3_0, a3_1, a3_2, a3_3, a3_4⟩, af3⟩ := five r3_6
  clear af3
  obtain ⟨⟨a4_0, a4_1, a4_2, a4_3, a4_4⟩, af4⟩ := five r4_6
  clear af4
  obtain ⟨⟨a5_0, a5_1, a5_2, a5_3, a5_4⟩, af5⟩ := five r5_6
  clear af5
  go_wp2_with fail
  refine (awake _).mono ?_
  rintro e w7 ⟨rfl, hb7⟩
  go_wp2
  go_ret
  exact ⟨rfl, (by repeat (first | with_reducible exact Below.refl _ _ | with_reducible assumption | with_reducible refine Below.drew ?_ | with_reducible refine below_dN ?_ _ | with_reducible refine Below.setCell ?_ (by first | omega | (simp; done) | (simp; omega)) _ | with_reducible refine below_al ?_ (by first | omega | (simp; done) | (simp; omega)) _ | exact Below.refl _ _ | assumption | refine Below.drew ?_ | refine below_dN ?_ _ | refine Below.setCell ?_ (by first | omega | (simp; done) | (simp; omega)) _ | refine below_al ?_ (by first | omega | (simp; done) | (simp; omega)) _ | refine below_tr (by assumption) ?_ (by first | omega | (simp; done) | (simp; omega))))⟩
set_option maxHeartbeats 4000000 in
set_option maxRecDepth 100000 in
theorem walk_CwndAcks (c s p m k n : Int) (full moved : Bool) (w : World) : Calls Try.prog 4 #[.agg #[.int .i64 c, .int .i64 s, .int .i64 p, .int .i64 m, .int .i64 k], .int .i64 n, .bool full, .bool moved] w fun e w' => e = .returned (.bool true) ∧ Below w.heap.size w w' := by
  have hu24 := Try.underlying24
  obtain ⟨c0, s0, p0, m0, k0, er0, hp0, hr0⟩ := ack_same c s p m k n full moved
  have HP0 := Lib.hid hp0
  have HR0 := Lib.hid hr0
  clear hp0 hr0
  obtain ⟨c1, s1, p1, m1, k1, er1, hp1, hr1⟩ := grow_same c s p m k n
  have HP1 := Lib.hid hp1
  have HR1 := Lib.hid hr1
  clear hp1 hr1
  go_enter Try.func4, Try.ntmps4
  go_wp2_with fail
  refine (HP0.out _).mono ?_
  rintro e w1 ⟨rfl, hb1⟩
  have hB1 : Below w.heap.size w w1 := (by repeat (first | with_reducible exact Below.refl _ _ | with_reducible assumption | with_reducible refine Below.drew ?_ | with_reducible refine below_dN ?_ _ | with_reducible refine Below.setCell ?_ (by first | omega | (simp; done) | (simp; omega)) _ | with_reducible refine below_al ?_ (by first | omega | (simp; done) | (simp; omega)) _ | exact Below.refl _ _ | assumption | refine Below.drew ?_ | refine below_dN ?_ _ | refine Below.setCell ?_ (by first | omega | (simp; done) | (simp; omega)) _ | refine below_al ?_ (by first | omega | (simp; done) | (simp; omega)) _ | refine below_tr (by assumption) ?_ (by first | omega | (simp; done) | (simp; omega))))
  have x1 := (hb1.block w.heap.size (by first | omega | (simp; done) | (simp; omega))).trans (al_new w _ _ rfl)
  have z1 : w.heap.size < w1.heap.size := by have := hb1.size; simp at this; omega
  clear hb1
  obtain ⟨⟨y0, y1, y2, y3, y4⟩, yf⟩ := five x1
  clear yf
  go_wp2_with fail
  refine (HR0.out _).mono ?_
  rintro e w2 ⟨rfl, hb2⟩
  have hB2 : Below w.heap.size w w2 := (by repeat (first | with_reducible exact Below.refl _ _ | with_reducible assumption | with_reducible refine Below.drew ?_ | with_reducible refine below_dN ?_ _ | with_reducible refine Below.setCell ?_ (by first | omega | (simp; done) | (simp; omega)) _ | with_reducible refine below_al ?_ (by first | omega | (simp; done) | (simp; omega)) _ | exact Below.refl _ _ | assumption | refine Below.drew ?_ | refine below_dN ?_ _ | refine Below.setCell ?_ (by first | omega | (simp; done) | (simp; omega)) _ | refine below_al ?_ (by first | omega | (simp; done) | (simp; omega)) _ | refine below_tr (by assumption) ?_ (by first | omega | (simp; done) | (simp; omega))))
  have z2 : w1.heap.size < w2.heap.size := by have := hb2.size; simp at this; omega
  have x2 := (hb2.block w.heap.size (by first | omega | (simp; done) | (simp; omega))).trans ((al_old w1 _ _ (by omega)).trans x1)
  have r1_2 := (hb2.block w1.heap.size (by first | omega | (simp; done) | (simp; omega))).trans (al_new w1 _ _ rfl)
  clear x1 hb2
  have zw2 : w.heap.size < w2.heap.size := by omega
  obtain ⟨⟨y0, y1, y2, y3, y4⟩, yf⟩ := five x2
  clear yf
  go_wp2_with fail
  refine (HP1.out _).mono ?_
  rintro e w3 ⟨rfl, hb3⟩
  have hB3 : Below w.heap.size w w3 := (by repeat (first | with_reducible exact Below.refl _ _ | with_reducible assumption | with_reducible refine Below.drew ?_ | with_reducible refine below_dN ?_ _ | with_reducible refine Below.setCell ?_ (by first | omega | (simp; done) | (simp; omega)) _ | with_reducible refine below_al ?_ (by first | omega | (simp; done) | (simp; omega)) _ | exact Below.refl _ _ | assumption | refine Below.drew ?_ | refine below_dN ?_ _ | refine Below.setCell ?_ (by first | omega | (simp; done) | (simp; omega)) _ | refine below_al ?_ (by first | omega | (simp; done) | (simp; omega)) _ | refine below_tr (by assumption) ?_ (by first | omega | (simp; done) | (simp; omega))))
  have z3 : w2.heap.size < w3.heap.size := by have := hb3.size; simp at this; omega
  have x3 := (hb3.block w.heap.size (by first | omega | (simp; done) | (simp; omega))).trans ((al_old w2 _ _ (by omega)).trans x2)
  have r2_3 := (hb3.block w2.heap.size (by first | omega | (simp; done) | (simp; omega))).trans (al_new w2 _ _ rfl)
  have r1_3 := (hb3.block w1.heap.size (by first | omega | (simp; done) | (simp; omega))).trans ((al_old w2 _ _ (by omega)).trans r1_2)
  clear x2 r1_2 hb3
  have zw3 : w.heap.size < w3.heap.size := by omega
  obtain ⟨⟨y0, y1, y2, y3, y4⟩, yf⟩ := five x3
  clear yf
  go_wp2_with fail
  refine (HR1.out _).mono ?_
  rintro e w4 ⟨rfl, hb4⟩
  have hB4 : Below w.heap.size w w4 := (by repeat (first | with_reducible exact Below.refl _ _ | with_reducible assumption | with_reducible refine Below.drew ?_ | with_reducible refine below_dN ?_ _ | with_reducible refine Below.setCell ?_ (by first | omega | (simp; done) | (simp; omega)) _ | with_reducible refine below_al ?_ (by first | omega | (simp; done) | (simp; omega)) _ | exact Below.refl _ _ | assumption | refine Below.drew ?_ | refine below_dN ?_ _ | refine Below.setCell ?_ (by first | omega | (simp; done) | (simp; omega)) _ | refine below_al ?_ (by first | omega | (simp; done) | (simp; omega)) _ | refine below_tr (by assumption) ?_ (by first | omega | (simp; done) | (simp; omega))))
  have z4 : w3.heap.size < w4.heap.size := by have := hb4.size; simp at this; omega
  have x4 := (hb4.block w.heap.size (by first | omega | (simp; done) | (simp; omega))).trans ((al_old w3 _ _ (by omega)).trans x3)
  have r3_4 := (hb4.block w3.heap.size (by first | omega | (simp; done) | (simp; omega))).trans (al_new w3 _ _ rfl)
  have r1_4 := (hb4.block w1.heap.size (by first | omega | (simp; done) | (simp; omega))).trans ((al_old w3 _ _ (by omega)).trans r1_3)
  have r2_4 := (hb4.block w2.heap.size (by first | omega | (simp; done) | (simp; omega))).trans ((al_old w3 _ _ (by omega)).trans r2_3)
  clear x3 r1_3 r2_3 hb4
  have zw4 : w.heap.size < w4.heap.size := by omega
  have zz1 : w1.heap.size < w4.heap.size := by omega
  have zz2 : w2.heap.size < w4.heap.size := by omega
  obtain ⟨⟨a1_0, a1_1, a1_2, a1_3, a1_4⟩, af1⟩ := five r1_4
  clear af1
  obtain ⟨⟨a2_0, a2_1, a2_2, a2_3, a2_4⟩, af2⟩ := five r2_4
  clear af2
  obtain ⟨⟨a3_0, a3_1, a3_2, a3_3, a3_4⟩, af3⟩ := five r3_4
  clear af3
  go_wp2_with fail
  refine (awake _).mono ?_
  rintro e w5 ⟨rfl, hb5⟩
  go_wp2
  go_ret
  exact ⟨rfl, (by repeat (first | with_reducible exact Below.refl _ _ | with_reducible assumption | with_reducible refine Below.drew ?_ | with_reducible refine below_dN ?_ _ | with_reducible refine Below.setCell ?_ (by first | omega | (simp; done) | (simp; omega)) _ | with_reducible refine below_al ?_ (by first | omega | (simp; done) | (simp; omega)) _ | exact Below.refl _ _ | assumption | refine Below.drew ?_ | refine below_dN ?_ _ | refine Below.setCell ?_ (by first | omega | (simp; done) | (simp; omega)) _ | refine below_al ?_ (by first | omega | (simp; done) | (simp; omega)) _ | refine below_tr (by assumption) ?_ (by first | omega | (simp; done) | (simp; omega))))⟩
