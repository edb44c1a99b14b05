/- The walk of the law RtoSteps. -/
import Derived.Test.YtkibogmplimegaaWRtoSteps
import Derived.Test.YtkibogmplimegaaO
import Derived.Deep.RegionHeld3
import Derived.Deep.DrawnRows
namespace Go.Proofs.Ytkibogmplimegaa.C
open Go.Proofs.YtkibogmplimegaaW.PrintMore
open Go.RowKit Go.Proofs.Ytkibogmplimegaa.PRtoSteps Go.Proofs.Ytkibogmplimegaa.MRtoSteps Go.Proofs.Ytkibogmplimegaa.WRtoSteps Go.Proofs.YtkibogmplimegaaW.PrintWords Go.Proofs.YtkibogmplimegaaW.PrintLast
set_option linter.unusedVariables false
set_option linter.unusedSimpArgs false
attribute [local go_sem ↓] Go.wp_at_zero Go.wp_at_succ

theorem check_same (i m x : Int) (kn : Bool) (s v t : Int) : ∃ e, rto_estimator_may.f i m x kn s v t = some e ∧ ropewalkref10_Check.f 1 i m x kn s v t = some e ∧ (e = 0 ↔ OkB i m x kn s v t) := by
  obtain ⟨e, h1, h2, h3, h4⟩ := may_iff i m x kn s v t
  obtain ⟨e', g1, g2, g3, g4⟩ := check_ok i m x kn s v t 0
  have : e = e' := by
    rcases h3 with rfl | rfl | rfl <;> rcases g3 with rfl | rfl | rfl <;> simp_all
  subst this
  exact ⟨e, h1, g1, h2⟩
theorem measure_same (i m x : Int) (kn : Bool) (s v t n : Int) : ∃ r1 r2 r3 r4 r5, rto_Measure.f 1 i m x kn s v t n = some (r1, r2, r3, r4, r5) ∧
    ∀ w, Calls Try.prog 12 #[.agg #[.int .i64 i, .int .i64 m, .int .i64 x], .agg #[.bool kn, .int .i64 s, .int .i64 v, .int .i64 t], .int .i64 n] w fun r w' => r = .returned (.tuple #[.agg #[.bool r1, .int .i64 r2, .int .i64 r3, .int .i64 r4], .int .i64 r5]) ∧ Below w.heap.size w w' := by
  obtain ⟨e, h1, h2, h3⟩ := check_same i m x kn s v t
  by_cases h : e = 0
  · subst h
    have ok := h3.1 rfl
    by_cases hn : n < 0 ∨ n > 1048576
    · exact ⟨_, _, _, _, _, measure_far ok hn 0, fun w => rmeasure_far i m x kn s v t n w h2 hn⟩
    · obtain ⟨a1, a2, a3, a4, a5, a6, a7, a8, a9, a10, a11⟩ := id ok
      refine ⟨_, _, _, _, _, measure_ok ok (by omega) (by omega) 0, fun w => ?_⟩
      cases kn
      · exact rmeasure_new i m x s v t n w h2 (by omega) (by omega) (by omega)
      · exact rmeasure_old i m x s v t n w h2 (by omega) (by omega) (by omega) a5 a6 a7 a8
  · exact ⟨_, _, _, _, _, measure_bad h1 h 0, fun w => rmeasure_bad i m x kn s v t n e w h2 h⟩
theorem backoff_same (i m x : Int) (kn : Bool) (s v t : Int) : ∃ r1 r2 r3 r4 r5, rto_Backoff.f i m x kn s v t = some (r1, r2, r3, r4, r5) ∧
    ∀ w, Calls Try.prog 13 #[.agg #[.int .i64 i, .int .i64 m, .int .i64 x], .agg #[.bool kn, .int .i64 s, .int .i64 v, .int .i64 t]] w fun r w' => r = .returned (.tuple #[.agg #[.bool r1, .int .i64 r2, .int .i64 r3, .int .i64 r4], .int .i64 r5]) ∧ Below w.heap.size w w' := by
  obtain ⟨e, h1, h2, h3⟩ := check_same i m x kn s v t
  unfold rto_Backoff.f
  rw [h1]
  simp only [Option.bind_some]
  by_cases h : e = 0
  · subst h
    obtain ⟨a1, a2, a3, a4, a5, a6, a7, a8, a9, a10, a11⟩ := h3.1 rfl
    rw [if_pos rfl, wid (2 * t) (by omega)]
    exact ⟨_, _, _, _, _, rfl, fun w => rbackoff_ok i m x kn s v t w h2 (by omega) (by omega)⟩
  · rw [if_neg h]
    exact ⟨_, _, _, _, _, rfl, fun w => rbackoff_bad i m x kn s v t e w h2 h⟩
theorem start_same (i m x : Int) : ∃ r1 r2 r3 r4 r5, rto_Start.f i m x = some (r1, r2, r3, r4, r5) ∧
    ∀ w, Calls Try.prog 15 #[.agg #[.int .i64 i, .int .i64 m, .int .i64 x]] w fun r w' => r = .returned (.tuple #[.agg #[.bool r1, .int .i64 r2, .int .i64 r3, .int .i64 r4], .int .i64 r5]) ∧ Below w.heap.size w w' := by
  unfold rto_Start.f
  rw [bounds_eq]
  simp only [Option.bind_some]
  cases h : bndB i m x
  · rw [if_neg (by unfold bndB at h; rw [h]; simp)]
    exact ⟨_, _, _, _, _, rfl, fun w => rstart_bad i m x w h⟩
  · rw [if_pos (by unfold bndB at h; rw [h])]
    exact ⟨_, _, _, _, _, rfl, fun w => rstart_ok i m x w h⟩
theorem trip_same (s : Int) (h0 : -9223372036854775808 ≤ s) (h1 : s ≤ 9223372036854775807) : mx 0 (wrap64 (Int.tdiv s 8)) = wrap64 (Int.tdiv (mx s 0) 8) := by
  simp only [mx_def]
  by_cases h : 0 ≤ s
  · have e : Int.tdiv s 8 = s / 8 := Int.tdiv_eq_ediv_of_nonneg h
    rw [e, wid (s / 8) (by omega)]
    by_cases h' : s ≤ 0
    · obtain rfl : s = 0 := by omega
      have e0 : Int.tdiv 0 8 = 0 := by decide
      simp [e0, wid]
    · rw [if_pos (by omega), if_neg h', e, wid (s / 8) (by omega)]
  · have e : Int.tdiv s 8 = -((-s) / 8) := by
      rw [← Int.tdiv_eq_ediv_of_nonneg (by omega), Int.neg_tdiv]; omega
    rw [e, wid _ (by omega), if_pos (show s ≤ 0 by omega)]
    have e0 : Int.tdiv 0 8 = 0 := by decide
    rw [e0, wid 0 (by omega)]
    split <;> omega

theorem name_world {P : Program} {c : Code} {Q : Exit → Act → World → Prop} {a : Act} {w : World} (h : ∀ W, W = w → Code.wp P c Q a W) : Code.wp P c Q a w := h w rfl
theorem keep0 (W : World) : Below W.heap.size W W.drew ∧ ∀ b o, b < W.heap.size → W.drew.cell? ⟨b, o, none⟩ = W.cell? ⟨b, o, none⟩ :=
  ⟨(Below.refl _ _).drew, fun b o h => rfl⟩
theorem keep1 {W w1 w2 : World} (h2 : Below w1.heap.size w1 w2) (h1 : Below W.heap.size W w1) : Below W.heap.size W w2 ∧ ∀ b o, b < W.heap.size → w2.cell? ⟨b, o, none⟩ = W.cell? ⟨b, o, none⟩ :=
  have h := h1.trans (h2.mono h1.size)
  ⟨h, fun b o hb => h.cell (p := ⟨b, o, none⟩) hb⟩
set_option maxRecDepth 100000 in
set_option maxHeartbeats 4000000 in
theorem steps (i m x : Int) (kn : Bool) (s v t n : Int) (w : World) (hs0 : -9223372036854775808 ≤ s) (hs1 : s ≤ 9223372036854775807) :
    Calls Try.prog 6 #[.agg #[.int .i64 i, .int .i64 m, .int .i64 x], .agg #[.bool kn, .int .i64 s, .int .i64 v, .int .i64 t], .int .i64 n] w fun e w' => e = .returned (.bool true) ∧ Below w.heap.size w w' := by
  have HT := Lib.hid (trip_same s hs0 hs1)
  obtain ⟨a1, a2, a3, a4, a5, ha, hb⟩ := measure_same i m x kn s v t n
  obtain ⟨b1, b2, b3, b4, b5, hc, hd⟩ := backoff_same i m x kn s v t
  obtain ⟨c1, c2, c3, c4, c5, he, hf⟩ := start_same i m x
  obtain ⟨e, g1, g2, _⟩ := check_same i m x kn s v t
  have HA := Lib.hid ha
  have HB := Lib.hid hb
  have HC := Lib.hid hc
  have HD := Lib.hid hd
  have HE := Lib.hid he
  have HF := Lib.hid hf
  have G1 := Lib.hid g1
  have G2 := Lib.hid g2
  clear ha hb hc hd he hf g1 g2 hs0 hs1
  have hu23 := Try.underlying23
  have hu25 := Try.underlying25
  go_enter Try.func6, Try.ntmps6
  go_wp2_with fail
  refine (rto_Measure.calls 1 _ _ _ _ _ _ _ _ _ _ _ _ _ _ HA.out).mono ?_
  rintro r w1 ⟨rfl, hb1⟩
  obtain ⟨k1, f1⟩ := bcell hb1
  have z1_0 : w.heap.size < w1.heap.size := by have := hb1.size; simp at this; omega
  have z1_1 : w.heap.size + 1 < w1.heap.size := by have := hb1.size; simp at this; omega
  go_wp2_with fail
  refine (HB.out _).mono ?_
  rintro r w2 ⟨rfl, hb2⟩
  obtain ⟨k2, f2⟩ := bcell hb2
  have z2_0 : w.heap.size < w2.heap.size := by have := hb2.size; simp at this; omega
  have z2_1 : w.heap.size + 1 < w2.heap.size := by have := hb2.size; simp at this; omega
  have z2_2 : w1.heap.size < w2.heap.size := by have := hb2.size; simp at this; omega
  go_wp2_with fail
  refine (rto_Backoff.calls _ _ _ _ _ _ _ _ _ _ _ _ _ HC.out).mono ?_
  rintro r w3 ⟨rfl, hb3⟩
  obtain ⟨k3, f3⟩ := bcell hb3
  have z3_0 : w.heap.size < w3.heap.size := by have := hb3.size; simp at this; omega
  have z3_1 : w.heap.size + 1 < w3.heap.size := by have := hb3.size; simp at this; omega
  have z3_2 : w1.heap.size < w3.heap.size := by have := hb3.size; simp at this; omega
  have z3_3 : w2.heap.size < w3.heap.size := by have := hb3.size; simp at this; omega
  go_wp2_with fail
  refine (HD.out _).mono ?_
  rintro r w4 ⟨rfl, hb4⟩
  obtain ⟨k4, f4⟩ := bcell hb4
  have z4_0 : w.heap.size < w4.heap.size := by have := hb4.size; simp at this; omega
  have z4_1 : w.heap.size + 1 < w4.heap.size := by have := hb4.size; simp at this; omega
  have z4_2 : w1.heap.size < w4.heap.size := by have := hb4.size; simp at this; omega
  have z4_3 : w2.heap.size < w4.heap.size := by have := hb4.size; simp at this; omega
  have z4_4 : w3.heap.size < w4.heap.size := by have := hb4.size; simp at this; omega
  go_wp2_with fail
  refine (rto_Start.calls _ _ _ _ _ _ _ _ _ HE.out).mono ?_
  rintro r w5 ⟨rfl, hb5⟩
  obtain ⟨k5, f5⟩ := bcell hb5
  have z5_0 : w.heap.size < w5.heap.size := by have := hb5.size; simp at this; omega
  have z5_1 : w.heap.size + 1 < w5.heap.size := by have := hb5.size; simp at this; omega
  have z5_2 : w1.heap.size < w5.heap.size := by have := hb5.size; simp at this; omega
  have z5_3 : w2.heap.size < w5.heap.size := by have := hb5.size; simp at this; omega
  have z5_4 : w3.heap.size < w5.heap.size := by have := hb5.size; simp at this; omega
  have z5_5 : w4.heap.size < w5.heap.size := by have := hb5.size; simp at this; omega
  go_wp2_with fail
  refine (HF.out _).mono ?_
  rintro r w6 ⟨rfl, hb6⟩
  obtain ⟨k6, f6⟩ := bcell hb6
  have z6_0 : w.heap.size < w6.heap.size := by have := hb6.size; simp at this; omega
  have z6_1 : w.heap.size + 1 < w6.heap.size := by have := hb6.size; simp at this; omega
  have z6_2 : w1.heap.size < w6.heap.size := by have := hb6.size; simp at this; omega
  have z6_3 : w2.heap.size < w6.heap.size := by have := hb6.size; simp at this; omega
  have z6_4 : w3.heap.size < w6.heap.size := by have := hb6.size; simp at this; omega
  have z6_5 : w4.heap.size < w6.heap.size := by have := hb6.size; simp at this; omega
  have z6_6 : w5.heap.size < w6.heap.size := by have := hb6.size; simp at this; omega
  go_wp2_with fail
  refine name_world ?_
  intro W hW
  have y0 : w.heap.size < W.heap.size := by rw [hW]; simp <;> omega
  have y1 : w.heap.size + 1 < W.heap.size := by rw [hW]; simp <;> omega
  have y2 : w1.heap.size < W.heap.size := by rw [hW]; simp <;> omega
  have y3 : w2.heap.size < W.heap.size := by rw [hW]; simp <;> omega
  have y4 : w3.heap.size < W.heap.size := by rw [hW]; simp <;> omega
  have y5 : w4.heap.size < W.heap.size := by rw [hW]; simp <;> omega
  have y6 : w5.heap.size < W.heap.size := by rw [hW]; simp <;> omega
  have y7 : w6.heap.size < W.heap.size := by rw [hW]; simp <;> omega
  have qt_0 : W.cell? ⟨w.heap.size, 0, none⟩ = some (.int .i64 i) := by rw [hW]; simp [go_sem, k1, k2, k3, k4, k5, k6, z1_0, z1_1, z2_0, z2_1, z2_2, z3_0, z3_1, z3_2, z3_3, z4_0, z4_1, z4_2, z4_3, z4_4, z5_0, z5_1, z5_2, z5_3, z5_4, z5_5, z6_0, z6_1, z6_2, z6_3, z6_4, z6_5, z6_6]
  have qt_1 : W.cell? ⟨w.heap.size, 1, none⟩ = some (.int .i64 m) := by rw [hW]; simp [go_sem, k1, k2, k3, k4, k5, k6, z1_0, z1_1, z2_0, z2_1, z2_2, z3_0, z3_1, z3_2, z3_3, z4_0, z4_1, z4_2, z4_3, z4_4, z5_0, z5_1, z5_2, z5_3, z5_4, z5_5, z6_0, z6_1, z6_2, z6_3, z6_4, z6_5, z6_6]
  have qt_2 : W.cell? ⟨w.heap.size, 2, none⟩ = some (.int .i64 x) := by rw [hW]; simp [go_sem, k1, k2, k3, k4, k5, k6, z1_0, z1_1, z2_0, z2_1, z2_2, z3_0, z3_1, z3_2, z3_3, z4_0, z4_1, z4_2, z4_3, z4_4, z5_0, z5_1, z5_2, z5_3, z5_4, z5_5, z6_0, z6_1, z6_2, z6_3, z6_4, z6_5, z6_6]
  have qr_0 : W.cell? ⟨w.heap.size + 1, 0, none⟩ = some (.bool kn) := by rw [hW]; simp [go_sem, k1, k2, k3, k4, k5, k6, z1_0, z1_1, z2_0, z2_1, z2_2, z3_0, z3_1, z3_2, z3_3, z4_0, z4_1, z4_2, z4_3, z4_4, z5_0, z5_1, z5_2, z5_3, z5_4, z5_5, z6_0, z6_1, z6_2, z6_3, z6_4, z6_5, z6_6]
  have qr_1 : W.cell? ⟨w.heap.size + 1, 1, none⟩ = some (.int .i64 s) := by rw [hW]; simp [go_sem, k1, k2, k3, k4, k5, k6, z1_0, z1_1, z2_0, z2_1, z2_2, z3_0, z3_1, z3_2, z3_3, z4_0, z4_1, z4_2, z4_3, z4_4, z5_0, z5_1, z5_2, z5_3, z5_4, z5_5, z6_0, z6_1, z6_2, z6_3, z6_4, z6_5, z6_6]
  have qr_2 : W.cell? ⟨w.heap.size + 1, 2, none⟩ = some (.int .i64 v) := by rw [hW]; simp [go_sem, k1, k2, k3, k4, k5, k6, z1_0, z1_1, z2_0, z2_1, z2_2, z3_0, z3_1, z3_2, z3_3, z4_0, z4_1, z4_2, z4_3, z4_4, z5_0, z5_1, z5_2, z5_3, z5_4, z5_5, z6_0, z6_1, z6_2, z6_3, z6_4, z6_5, z6_6]
  have qr_3 : W.cell? ⟨w.heap.size + 1, 3, none⟩ = some (.int .i64 t) := by rw [hW]; simp [go_sem, k1, k2, k3, k4, k5, k6, z1_0, z1_1, z2_0, z2_1, z2_2, z3_0, z3_1, z3_2, z3_3, z4_0, z4_1, z4_2, z4_3, z4_4, z5_0, z5_1, z5_2, z5_3, z5_4, z5_5, z6_0, z6_1, z6_2, z6_3, z6_4, z6_5, z6_6]
  have q1_0 : W.cell? ⟨w1.heap.size, 0, none⟩ = some (.bool a1) := by rw [hW]; simp [go_sem, k1, k2, k3, k4, k5, k6, z1_0, z1_1, z2_0, z2_1, z2_2, z3_0, z3_1, z3_2, z3_3, z4_0, z4_1, z4_2, z4_3, z4_4, z5_0, z5_1, z5_2, z5_3, z5_4, z5_5, z6_0, z6_1, z6_2, z6_3, z6_4, z6_5, z6_6]
  have q1_1 : W.cell? ⟨w1.heap.size, 1, none⟩ = some (.int .i64 a2) := by rw [hW]; simp [go_sem, k1, k2, k3, k4, k5, k6, z1_0, z1_1, z2_0, z2_1, z2_2, z3_0, z3_1, z3_2, z3_3, z4_0, z4_1, z4_2, z4_3, z4_4, z5_0, z5_1, z5_2, z5_3, z5_4, z5_5, z6_0, z6_1, z6_2, z6_3, z6_4, z6_5, z6_6]
  have q1_2 : W.cell? ⟨w1.heap.size, 2, none⟩ = some (.int .i64 a3) := by rw [hW]; simp [go_sem, k1, k2, k3, k4, k5, k6, z1_0, z1_1, z2_0, z2_1, z2_2, z3_0, z3_1, z3_2, z3_3, z4_0, z4_1, z4_2, z4_3, z4_4, z5_0, z5_1, z5_2, z5_3, z5_4, z5_5, z6_0, z6_1, z6_2, z6_3, z6_4, z6_5, z6_6]
  have q1_3 : W.cell? ⟨w1.heap.size, 3, none⟩ = some (.int .i64 a4) := by rw [hW]; simp [go_sem, k1, k2, k3, k4, k5, k6, z1_0, z1_1, z2_0, z2_1, z2_2, z3_0, z3_1, z3_2, z3_3, z4_0, z4_1, z4_2, z4_3, z4_4, z5_0, z5_1, z5_2, z5_3, z5_4, z5_5, z6_0, z6_1, z6_2, z6_3, z6_4, z6_5, z6_6]
  have q2_0 : W.cell? ⟨w2.heap.size, 0, none⟩ = some (.bool a1) := by rw [hW]; simp [go_sem, k1, k2, k3, k4, k5, k6, z1_0, z1_1, z2_0, z2_1, z2_2, z3_0, z3_1, z3_2, z3_3, z4_0, z4_1, z4_2, z4_3, z4_4, z5_0, z5_1, z5_2, z5_3, z5_4, z5_5, z6_0, z6_1, z6_2, z6_3, z6_4, z6_5, z6_6]
  have q2_1 : W.cell? ⟨w2.heap.size, 1, none⟩ = some (.int .i64 a2) := by rw [hW]; simp [go_sem, k1, k2, k3, k4, k5, k6, z1_0, z1_1, z2_0, z2_1, z2_2, z3_0, z3_1, z3_2, z3_3, z4_0, z4_1, z4_2, z4_3, z4_4, z5_0, z5_1, z5_2, z5_3, z5_4, z5_5, z6_0, z6_1, z6_2, z6_3, z6_4, z6_5, z6_6]
  have q2_2 : W.cell? ⟨w2.heap.size, 2, none⟩ = some (.int .i64 a3) := by rw [hW]; simp [go_sem, k1, k2, k3, k4, k5, k6, z1_0, z1_1, z2_0, z2_1, z2_2, z3_0, z3_1, z3_2, z3_3, z4_0, z4_1, z4_2, z4_3, z4_4, z5_0, z5_1, z5_2, z5_3, z5_4, z5_5, z6_0, z6_1, z6_2, z6_3, z6_4, z6_5, z6_6]
  have q2_3 : W.cell? ⟨w2.heap.size, 3, none⟩ = some (.int .i64 a4) := by rw [hW]; simp [go_sem, k1, k2, k3, k4, k5, k6, z1_0, z1_1, z2_0, z2_1, z2_2, z3_0, z3_1, z3_2, z3_3, z4_0, z4_1, z4_2, z4_3, z4_4, z5_0, z5_1, z5_2, z5_3, z5_4, z5_5, z6_0, z6_1, z6_2, z6_3, z6_4, z6_5, z6_6]
  have q3_0 : W.cell? ⟨w3.heap.size, 0, none⟩ = some (.bool b1) := by rw [hW]; simp [go_sem, k1, k2, k3, k4, k5, k6, z1_0, z1_1, z2_0, z2_1, z2_2, z3_0, z3_1, z3_2, z3_3, z4_0, z4_1, z4_2, z4_3, z4_4, z5_0, z5_1, z5_2, z5_3, z5_4, z5_5, z6_0, z6_1, z6_2, z6_3, z6_4, z6_5, z6_6]
  have q3_1 : W.cell? ⟨w3.heap.size, 1, none⟩ = some (.int .i64 b2) := by rw [hW]; simp [go_sem, k1, k2, k3, k4, k5, k6, z1_0, z1_1, z2_0, z2_1, z2_2, z3_0, z3_1, z3_2, z3_3, z4_0, z4_1, z4_2, z4_3, z4_4, z5_0, z5_1, z5_2, z5_3, z5_4, z5_5, z6_0, z6_1, z6_2, z6_3, z6_4, z6_5, z6_6]
  have q3_2 : W.cell? ⟨w3.heap.size, 2, none⟩ = some (.int .i64 b3) := by rw [hW]; simp [go_sem, k1, k2, k3, k4, k5, k6, z1_0, z1_1, z2_0, z2_1, z2_2, z3_0, z3_1, z3_2, z3_3, z4_0, z4_1, z4_2, z4_3, z4_4, z5_0, z5_1, z5_2, z5_3, z5_4, z5_5, z6_0, z6_1, z6_2, z6_3, z6_4, z6_5, z6_6]
  have q3_3 : W.cell? ⟨w3.heap.size, 3, none⟩ = some (.int .i64 b4) := by rw [hW]; simp [go_sem, k1, k2, k3, k4, k5, k6, z1_0, z1_1, z2_0, z2_1, z2_2, z3_0, z3_1, z3_2, z3_3, z4_0, z4_1, z4_2, z4_3, z4_4, z5_0, z5_1, z5_2, z5_3, z5_4, z5_5, z6_0, z6_1, z6_2, z6_3, z6_4, z6_5, z6_6]
  have q4_0 : W.cell? ⟨w4.heap.size, 0, none⟩ = some (.bool b1) := by rw [hW]; simp [go_sem, k1, k2, k3, k4, k5, k6, z1_0, z1_1, z2_0, z2_1, z2_2, z3_0, z3_1, z3_2, z3_3, z4_0, z4_1, z4_2, z4_3, z4_4, z5_0, z5_1, z5_2, z5_3, z5_4, z5_5, z6_0, z6_1, z6_2, z6_3, z6_4, z6_5, z6_6]
  have q4_1 : W.cell? ⟨w4.heap.size, 1, none⟩ = some (.int .i64 b2) := by rw [hW]; simp [go_sem, k1, k2, k3, k4, k5, k6, z1_0, z1_1, z2_0, z2_1, z2_2, z3_0, z3_1, z3_2, z3_3, z4_0, z4_1, z4_2, z4_3, z4_4, z5_0, z5_1, z5_2, z5_3, z5_4, z5_5, z6_0, z6_1, z6_2, z6_3, z6_4, z6_5, z6_6]
  have q4_2 : W.cell? ⟨w4.heap.size, 2, none⟩ = some (.int .i64 b3) := by rw [hW]; simp [go_sem, k1, k2, k3, k4, k5, k6, z1_0, z1_1, z2_0, z2_1, z2_2, z3_0, z3_1, z3_2, z3_3, z4_0, z4_1, z4_2, z4_3, z4_4, z5_0, z5_1, z5_2, z5_3, z5_4, z5_5, z6_0, z6_1, z6_2, z6_3, z6_4, z6_5, z6_6]
  have q4_3 : W.cell? ⟨w4.heap.size, 3, none⟩ = some (.int .i64 b4) := by rw [hW]; simp [go_sem, k1, k2, k3, k4, k5, k6, z1_0, z1_1, z2_0, z2_1, z2_2, z3_0, z3_1, z3_2, z3_3, z4_0, z4_1, z4_2, z4_3, z4_4, z5_0, z5_1, z5_2, z5_3, z5_4, z5_5, z6_0, z6_1, z6_2, z6_3, z6_4, z6_5, z6_6]
  have q5_0 : W.cell? ⟨w5.heap.size, 0, none⟩ = some (.bool c1) := by rw [hW]; simp [go_sem, k1, k2, k3, k4, k5, k6, z1_0, z1_1, z2_0, z2_1, z2_2, z3_0, z3_1, z3_2, z3_3, z4_0, z4_1, z4_2, z4_3, z4_4, z5_0, z5_1, z5_2, z5_3, z5_4, z5_5, z6_0, z6_1, z6_2, z6_3, z6_4, z6_5, z6_6]
  have q5_1 : W.cell? ⟨w5.heap.size, 1, none⟩ = some (.int .i64 c2) := by rw [hW]; simp [go_sem, k1, k2, k3, k4, k5, k6, z1_0, z1_1, z2_0, z2_1, z2_2, z3_0, z3_1, z3_2, z3_3, z4_0, z4_1, z4_2, z4_3, z4_4, z5_0, z5_1, z5_2, z5_3, z5_4, z5_5, z6_0, z6_1, z6_2, z6_3, z6_4, z6_5, z6_6]
  have q5_2 : W.cell? ⟨w5.heap.size, 2, none⟩ = some (.int .i64 c3) := by rw [hW]; simp [go_sem, k1, k2, k3, k4, k5, k6, z1_0, z1_1, z2_0, z2_1, z2_2, z3_0, z3_1, z3_2, z3_3, z4_0, z4_1, z4_2, z4_3, z4_4, z5_0, z5_1, z5_2, z5_3, z5_4, z5_5, z6_0, z6_1, z6_2, z6_3, z6_4, z6_5, z6_6]
  have q5_3 : W.cell? ⟨w5.heap.size, 3, none⟩ = some (.int .i64 c4) := by rw [hW]; simp [go_sem, k1, k2, k3, k4, k5, k6, z1_0, z1_1, z2_0, z2_1, z2_2, z3_0, z3_1, z3_2, z3_3, z4_0, z4_1, z4_2, z4_3, z4_4, z5_0, z5_1, z5_2, z5_3, z5_4, z5_5, z6_0, z6_1, z6_2, z6_3, z6_4, z6_5, z6_6]
  have q6_0 : W.cell? ⟨w6.heap.size, 0, none⟩ = some (.bool c1) := by rw [hW]; simp [go_sem, k1, k2, k3, k4, k5, k6, z1_0, z1_1, z2_0, z2_1, z2_2, z3_0, z3_1, z3_2, z3_3, z4_0, z4_1, z4_2, z4_3, z4_4, z5_0, z5_1, z5_2, z5_3, z5_4, z5_5, z6_0, z6_1, z6_2, z6_3, z6_4, z6_5, z6_6]
  have q6_1 : W.cell? ⟨w6.heap.size, 1, none⟩ = some (.int .i64 c2) := by rw [hW]; simp [go_sem, k1, k2, k3, k4, k5, k6, z1_0, z1_1, z2_0, z2_1, z2_2, z3_0, z3_1, z3_2, z3_3, z4_0, z4_1, z4_2, z4_3, z4_4, z5_0, z5_1, z5_2, z5_3, z5_4, z5_5, z6_0, z6_1, z6_2, z6_3, z6_4, z6_5, z6_6]
  have q6_2 : W.cell? ⟨w6.heap.size, 2, none⟩ = some (.int .i64 c3) := by rw [hW]; simp [go_sem, k1, k2, k3, k4, k5, k6, z1_0, z1_1, z2_0, z2_1, z2_2, z3_0, z3_1, z3_2, z3_3, z4_0, z4_1, z4_2, z4_3, z4_4, z5_0, z5_1, z5_2, z5_3, z5_4, z5_5, z6_0, z6_1, z6_2, z6_3, z6_4, z6_5, z6_6]
  have q6_3 : W.cell? ⟨w6.heap.size, 3, none⟩ = some (.int .i64 c4) := by rw [hW]; simp [go_sem, k1, k2, k3, k4, k5, k6, z1_0, z1_1, z2_0, z2_1, z2_2, z3_0, z3_1, z3_2, z3_3, z4_0, z4_1, z4_2, z4_3, z4_4, z5_0, z5_1, z5_2, z5_3, z5_4, z5_5, z6_0, z6_1, z6_2, z6_3, z6_4, z6_5, z6_6]
  have hBW : Hid (Below w.heap.size w W) := by
    show Below _ _ _; rw [hW]; exact (by repeat (first | exact Below.refl _ _ | refine Below.drew ?_ | refine Below.setCell ?_ (by first | omega | (simp; done) | (simp; omega)) _ | refine Below.alloc ?_ (by first | omega | (simp; done) | (simp; omega)) _ | (refine Below.trans ?_ (Below.mono (by assumption) (by first | omega | (simp; done) | (simp; omega))))))
  clear hW k1 f1 hb1 k2 f2 hb2 k3 f3 hb3 k4 f4 hb4 k5 f5 hb5 k6 f6 hb6
  go_region_held3 (fun w' => Below W.heap.size W w' ∧ ∀ b o, b < W.heap.size → w'.cell? ⟨b, o, none⟩ = W.cell? ⟨b, o, none⟩) (first | exact keep0 _ | exact keep1 (by assumption) (by first | assumption | exact (Below.refl _ _).drew | exact And.left (by assumption))) (first | (go_at_call 16; refine (pcheck _ _ _ _ _ _ _ e _ G1.out).mono ?_; rintro e w' ⟨rfl, hbn⟩) | (go_at_call 8; refine (ropewalkref10_Check.calls 1 _ _ _ _ _ _ _ e _ G2.out).mono ?_; rintro e w' ⟨rfl, hbn⟩) | (go_at_call 10; refine (rto_Trip.calls _ _ _ _ _ _ rfl).mono ?_; rintro e w' ⟨rfl, hbn⟩) | (go_at_call 17; refine (rtrip _ _ _ _ _).mono ?_; rintro e w' ⟨rfl, hbn⟩) | (go_at_call 7; refine (ropewalklaw10_awake.calls 1 true _ (awake_ok 0)).mono ?_; rintro e w' ⟨rfl, hbn⟩))
  go_wp2
  go_ret
  exact ⟨rfl, hBW.out.trans (Below.mono (And.left ‹Below W.heap.size W _ ∧ _›) (hBW.out.size))⟩
theorem walk_RtoSteps (a0_0 a0_1 a0_2 : Int) (a1_0 : Bool) (a1_1 a1_2 a1_3 : Int) (a2 : Int) (w : World) (w0_0 : (Lit.int .i64 a0_0).wf = true) (w0_1 : (Lit.int .i64 a0_1).wf = true) (w0_2 : (Lit.int .i64 a0_2).wf = true) (w1_1 : (Lit.int .i64 a1_1).wf = true) (w1_2 : (Lit.int .i64 a1_2).wf = true) (w1_3 : (Lit.int .i64 a1_3).wf = true) (w2 : (Lit.int .i64 a2).wf = true) :
    Calls Try.prog 6 #[.agg #[.int .i64 a0_0, .int .i64 a0_1, .int .i64 a0_2], .agg #[.bool a1_0, .int .i64 a1_1, .int .i64 a1_2, .int .i64 a1_3], .int .i64 a2] w fun e w' => e = .returned (.bool true) ∧ Below w.heap.size w w' := by
  have b1 := bounds_i64 w1_1
  exact steps a0_0 a0_1 a0_2 a1_0 a1_1 a1_2 a1_3 a2 w (by omega) (by omega)
end Go.Proofs.Ytkibogmplimegaa.C
