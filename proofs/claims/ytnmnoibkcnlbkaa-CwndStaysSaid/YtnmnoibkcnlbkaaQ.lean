/- The exported functions of layer 12, and the reference's. -/
import Derived.Test.YtnmnoibkcnlbkaaP
import Derived.Test.YtnmnoibkcnlbkaaG
namespace Go.Proofs.Ytnmnoibkcnlbkaa.C
open Go.RowKit
set_option linter.unusedVariables false
set_option linter.unusedSimpArgs false
attribute [local go_sem high] max2_mx min2_mn max_two min_two
attribute [local go_sem ↓] Go.wp_at_zero Go.wp_at_succ

set_option maxHeartbeats 2000000 in
theorem popen_m (mtu limit peer : Int) (w : World) (h1 : inB mtu 100 1500 = false) : Calls Try.prog 9 #[.int .i64 mtu, .int .i64 limit, .int .i64 peer] w (Win 0 0 0 0 0 1 w) := by
  have hu24 := Try.underlying24
  have hu49 := Try.underlying49
  go_enter Try.func9, Try.ntmps9
  go_wp2_with fail
  refine (within mtu 100 1500 _).mono ?_
  rw [h1]
  rintro e w1 ⟨rfl, rfl⟩
  go_wp2
  exact bodyPost_ret (v := .tuple #[.agg #[.int .i64 0, .int .i64 0, .int .i64 0, .int .i64 0, .int .i64 0], .int .i64 1]) (by simp [results, Try.results9, go_sem]) rfl ⟨rfl, (by repeat (first | with_reducible exact Below.refl _ _ | with_reducible assumption | with_reducible refine Below.drew ?_ | with_reducible refine below_dN ?_ _ | with_reducible refine Below.setCell ?_ (by first | omega | (simp; done) | (simp; omega)) _ | with_reducible refine below_al ?_ (by first | omega | (simp; done) | (simp; omega)) _ | exact Below.refl _ _ | assumption | refine Below.drew ?_ | refine below_dN ?_ _ | refine Below.setCell ?_ (by first | omega | (simp; done) | (simp; omega)) _ | refine below_al ?_ (by first | omega | (simp; done) | (simp; omega)) _ | refine below_tr (by assumption) ?_ (by first | omega | (simp; done) | (simp; omega))))⟩
set_option maxHeartbeats 2000000 in
theorem popen_l (mtu limit peer : Int) (w : World) (h1 : inB mtu 100 1500 = true) (h2 : inB limit (4 * mtu) 1073741824 = false) : Calls Try.prog 9 #[.int .i64 mtu, .int .i64 limit, .int .i64 peer] w (Win 0 0 0 0 0 1 w) := by
  have hu24 := Try.underlying24
  have hu49 := Try.underlying49
  obtain ⟨m0, m1⟩ := inB_t h1
  go_enter Try.func9, Try.ntmps9
  go_wp2_with fail
  refine (within mtu 100 1500 _).mono ?_
  rw [h1]
  rintro e w1 ⟨rfl, rfl⟩
  go_wp2_with fail
  refine (within limit (4 * mtu) 1073741824 _).mono ?_
  rw [h2]
  rintro e w2 ⟨rfl, rfl⟩
  go_wp2
  exact bodyPost_ret (v := .tuple #[.agg #[.int .i64 0, .int .i64 0, .int .i64 0, .int .i64 0, .int .i64 0], .int .i64 1]) (by simp [results, Try.results9, go_sem]) rfl ⟨rfl, (by repeat (first | with_reducible exact Below.refl _ _ | with_reducible assumption | with_reducible refine Below.drew ?_ | with_reducible refine below_dN ?_ _ | with_reducible refine Below.setCell ?_ (by first | omega | (simp; done) | (simp; omega)) _ | with_reducible refine below_al ?_ (by first | omega | (simp; done) | (simp; omega)) _ | exact Below.refl _ _ | assumption | refine Below.drew ?_ | refine below_dN ?_ _ | refine Below.setCell ?_ (by first | omega | (simp; done) | (simp; omega)) _ | refine below_al ?_ (by first | omega | (simp; done) | (simp; omega)) _ | refine below_tr (by assumption) ?_ (by first | omega | (simp; done) | (simp; omega))))⟩
set_option maxHeartbeats 2000000 in
theorem popen_t (mtu limit peer : Int) (w : World) (h1 : inB mtu 100 1500 = true) (h2 : inB limit (4 * mtu) 1073741824 = true) : Calls Try.prog 9 #[.int .i64 mtu, .int .i64 limit, .int .i64 peer] w (Win (4 * mtu) (mn (mx peer (4 * mtu)) 1073741824) 0 mtu limit 0 w) := by
  have hu24 := Try.underlying24
  have hu49 := Try.underlying49
  obtain ⟨m0, m1⟩ := inB_t h1
  go_enter Try.func9, Try.ntmps9
  go_wp2_with fail
  refine (within mtu 100 1500 _).mono ?_
  rw [h1]
  rintro e w1 ⟨rfl, rfl⟩
  go_wp2_with fail
  refine (within limit (4 * mtu) 1073741824 _).mono ?_
  rw [h2]
  rintro e w2 ⟨rfl, rfl⟩
  go_wp2_with fail
  refine (most peer (4 * mtu) _ w _ _ (Rd1 (b := 4 * mtu) (by simp [go_sem]))).mono ?_
  rintro e w2 ⟨rfl, rfl⟩
  go_wp2
  exact bodyPost_ret (v := .tuple #[.agg #[.int .i64 (4 * mtu), .int .i64 (mn (mx peer (4 * mtu)) 1073741824), .int .i64 0, .int .i64 mtu, .int .i64 limit], .int .i64 0]) (by simp [results, Try.results9, go_sem]) rfl ⟨rfl, (by repeat (first | with_reducible exact Below.refl _ _ | with_reducible assumption | with_reducible refine Below.drew ?_ | with_reducible refine below_dN ?_ _ | with_reducible refine Below.setCell ?_ (by first | omega | (simp; done) | (simp; omega)) _ | with_reducible refine below_al ?_ (by first | omega | (simp; done) | (simp; omega)) _ | exact Below.refl _ _ | assumption | refine Below.drew ?_ | refine below_dN ?_ _ | refine Below.setCell ?_ (by first | omega | (simp; done) | (simp; omega)) _ | refine below_al ?_ (by first | omega | (simp; done) | (simp; omega)) _ | refine below_tr (by assumption) ?_ (by first | omega | (simp; done) | (simp; omega))))⟩
set_option maxHeartbeats 2000000 in
theorem ropen_t (mtu limit peer : Int) (w : World) (h1 : inB mtu 100 1500 = true) (h2 : inB limit (4 * mtu) 1073741824 = true) : Calls Try.prog 14 #[.int .i64 mtu, .int .i64 limit, .int .i64 peer] w (Win (4 * mtu) (mn (mx peer (4 * mtu)) 1073741824) 0 mtu limit 0 w) := by
  have hu24 := Try.underlying24
  have hu49 := Try.underlying49
  obtain ⟨m0, m1⟩ := inB_t h1
  obtain ⟨l0, l1⟩ := inB_t h2
  go_enter Try.func14, Try.ntmps14
  go_wp2
  exact bodyPost_ret (v := .tuple #[.agg #[.int .i64 (4 * mtu), .int .i64 (mn (mx peer (4 * mtu)) 1073741824), .int .i64 0, .int .i64 mtu, .int .i64 limit], .int .i64 0]) (by simp [results, Try.results14, go_sem]) rfl ⟨rfl, (by repeat (first | with_reducible exact Below.refl _ _ | with_reducible assumption | with_reducible refine Below.drew ?_ | with_reducible refine below_dN ?_ _ | with_reducible refine Below.setCell ?_ (by first | omega | (simp; done) | (simp; omega)) _ | with_reducible refine below_al ?_ (by first | omega | (simp; done) | (simp; omega)) _ | exact Below.refl _ _ | assumption | refine Below.drew ?_ | refine below_dN ?_ _ | refine Below.setCell ?_ (by first | omega | (simp; done) | (simp; omega)) _ | refine below_al ?_ (by first | omega | (simp; done) | (simp; omega)) _ | refine below_tr (by assumption) ?_ (by first | omega | (simp; done) | (simp; omega))))⟩
set_option maxHeartbeats 2000000 in
theorem ropen_a (mtu limit peer : Int) (w : World) (h : mtu < 100) : Calls Try.prog 14 #[.int .i64 mtu, .int .i64 limit, .int .i64 peer] w (Win 0 0 0 0 0 1 w) := by
  have hu24 := Try.underlying24
  have hu49 := Try.underlying49
  go_enter Try.func14, Try.ntmps14
  go_wp2
  exact bodyPost_ret (v := .tuple #[.agg #[.int .i64 0, .int .i64 0, .int .i64 0, .int .i64 0, .int .i64 0], .int .i64 1]) (by simp [results, Try.results14, go_sem]) rfl ⟨rfl, (by repeat (first | with_reducible exact Below.refl _ _ | with_reducible assumption | with_reducible refine Below.drew ?_ | with_reducible refine below_dN ?_ _ | with_reducible refine Below.setCell ?_ (by first | omega | (simp; done) | (simp; omega)) _ | with_reducible refine below_al ?_ (by first | omega | (simp; done) | (simp; omega)) _ | exact Below.refl _ _ | assumption | refine Below.drew ?_ | refine below_dN ?_ _ | refine Below.setCell ?_ (by first | omega | (simp; done) | (simp; omega)) _ | refine below_al ?_ (by first | omega | (simp; done) | (simp; omega)) _ | refine below_tr (by assumption) ?_ (by first | omega | (simp; done) | (simp; omega))))⟩
set_option maxHeartbeats 2000000 in
theorem ropen_b (mtu limit peer : Int) (w : World) (h0 : 100 ≤ mtu) (h : 1500 < mtu) : Calls Try.prog 14 #[.int .i64 mtu, .int .i64 limit, .int .i64 peer] w (Win 0 0 0 0 0 1 w) := by
  have hu24 := Try.underlying24
  have hu49 := Try.underlying49
  go_enter Try.func14, Try.ntmps14
  go_wp2
  exact bodyPost_ret (v := .tuple #[.agg #[.int .i64 0, .int .i64 0, .int .i64 0, .int .i64 0, .int .i64 0], .int .i64 1]) (by simp [results, Try.results14, go_sem]) rfl ⟨rfl, (by repeat (first | with_reducible exact Below.refl _ _ | with_reducible assumption | with_reducible refine Below.drew ?_ | with_reducible refine below_dN ?_ _ | with_reducible refine Below.setCell ?_ (by first | omega | (simp; done) | (simp; omega)) _ | with_reducible refine below_al ?_ (by first | omega | (simp; done) | (simp; omega)) _ | exact Below.refl _ _ | assumption | refine Below.drew ?_ | refine below_dN ?_ _ | refine Below.setCell ?_ (by first | omega | (simp; done) | (simp; omega)) _ | refine below_al ?_ (by first | omega | (simp; done) | (simp; omega)) _ | refine below_tr (by assumption) ?_ (by first | omega | (simp; done) | (simp; omega))))⟩
set_option maxHeartbeats 2000000 in
theorem ropen_c (mtu limit peer : Int) (w : World) (h0 : 100 ≤ mtu) (h1 : mtu ≤ 1500) (h : limit < 4 * mtu) : Calls Try.prog 14 #[.int .i64 mtu, .int .i64 limit, .int .i64 peer] w (Win 0 0 0 0 0 1 w) := by
  have hu24 := Try.underlying24
  have hu49 := Try.underlying49
  go_enter Try.func14, Try.ntmps14
  go_wp2
  exact bodyPost_ret (v := .tuple #[.agg #[.int .i64 0, .int .i64 0, .int .i64 0, .int .i64 0, .int .i64 0], .int .i64 1]) (by simp [results, Try.results14, go_sem]) rfl ⟨rfl, (by repeat (first | with_reducible exact Below.refl _ _ | with_reducible assumption | with_reducible refine Below.drew ?_ | with_reducible refine below_dN ?_ _ | with_reducible refine Below.setCell ?_ (by first | omega | (simp; done) | (simp; omega)) _ | with_reducible refine below_al ?_ (by first | omega | (simp; done) | (simp; omega)) _ | exact Below.refl _ _ | assumption | refine Below.drew ?_ | refine below_dN ?_ _ | refine Below.setCell ?_ (by first | omega | (simp; done) | (simp; omega)) _ | refine below_al ?_ (by first | omega | (simp; done) | (simp; omega)) _ | refine below_tr (by assumption) ?_ (by first | omega | (simp; done) | (simp; omega))))⟩
set_option maxHeartbeats 2000000 in
theorem ropen_d (mtu limit peer : Int) (w : World) (h0 : 100 ≤ mtu) (h1 : mtu ≤ 1500) (h2 : 4 * mtu ≤ limit) (h : 1073741824 < limit) : Calls Try.prog 14 #[.int .i64 mtu, .int .i64 limit, .int .i64 peer] w (Win 0 0 0 0 0 1 w) := by
  have hu24 := Try.underlying24
  have hu49 := Try.underlying49
  go_enter Try.func14, Try.ntmps14
  go_wp2
  exact bodyPost_ret (v := .tuple #[.agg #[.int .i64 0, .int .i64 0, .int .i64 0, .int .i64 0, .int .i64 0], .int .i64 1]) (by simp [results, Try.results14, go_sem]) rfl ⟨rfl, (by repeat (first | with_reducible exact Below.refl _ _ | with_reducible assumption | with_reducible refine Below.drew ?_ | with_reducible refine below_dN ?_ _ | with_reducible refine Below.setCell ?_ (by first | omega | (simp; done) | (simp; omega)) _ | with_reducible refine below_al ?_ (by first | omega | (simp; done) | (simp; omega)) _ | exact Below.refl _ _ | assumption | refine Below.drew ?_ | refine below_dN ?_ _ | refine Below.setCell ?_ (by first | omega | (simp; done) | (simp; omega)) _ | refine below_al ?_ (by first | omega | (simp; done) | (simp; omega)) _ | refine below_tr (by assumption) ?_ (by first | omega | (simp; done) | (simp; omega))))⟩
theorem ropen_m (mtu limit peer : Int) (w : World) (h1 : inB mtu 100 1500 = false) : Calls Try.prog 14 #[.int .i64 mtu, .int .i64 limit, .int .i64 peer] w (Win 0 0 0 0 0 1 w) := by
  have hx := inB_f h1
  by_cases g : mtu < 100
  · exact ropen_a mtu limit peer w g
  · exact ropen_b mtu limit peer w (by omega) (by omega)
theorem ropen_l (mtu limit peer : Int) (w : World) (h1 : inB mtu 100 1500 = true) (h2 : inB limit (4 * mtu) 1073741824 = false) : Calls Try.prog 14 #[.int .i64 mtu, .int .i64 limit, .int .i64 peer] w (Win 0 0 0 0 0 1 w) := by
  obtain ⟨m0, m1⟩ := inB_t h1
  have hx := inB_f h2
  by_cases g : limit < 4 * mtu
  · exact ropen_c mtu limit peer w m0 m1 g
  · exact ropen_d mtu limit peer w m0 m1 (by omega) (by omega)
set_option maxHeartbeats 2000000 in
theorem space18_f (c s p m k out : Int) (w : World) (hm : MayB c s p m k = false) : Calls Try.prog 18 #[.agg #[.int .i64 c, .int .i64 s, .int .i64 p, .int .i64 m, .int .i64 k], .int .i64 out] w fun e w' => e = .returned (.int .i64 0) ∧ Below w.heap.size w w' := by
  have hu24 := Try.underlying24
  have hu49 := Try.underlying49
  go_enter Try.func18, Try.ntmps18
  go_wp2_with fail
  refine (check_f c s p m k _ hm).mono ?_
  rintro e w1 ⟨rfl, hb1⟩
  obtain ⟨hc, hf⟩ := bcell hb1
  have z1 : w.heap.size < w1.heap.size := by have := hb1.size; simp at this; omega
  go_wp2
  go_ret
  exact ⟨rfl, (by repeat (first | with_reducible exact Below.refl _ _ | with_reducible assumption | with_reducible refine Below.drew ?_ | with_reducible refine below_dN ?_ _ | with_reducible refine Below.setCell ?_ (by first | omega | (simp; done) | (simp; omega)) _ | with_reducible refine below_al ?_ (by first | omega | (simp; done) | (simp; omega)) _ | exact Below.refl _ _ | assumption | refine Below.drew ?_ | refine below_dN ?_ _ | refine Below.setCell ?_ (by first | omega | (simp; done) | (simp; omega)) _ | refine below_al ?_ (by first | omega | (simp; done) | (simp; omega)) _ | refine below_tr (by assumption) ?_ (by first | omega | (simp; done) | (simp; omega))))⟩
set_option maxHeartbeats 2000000 in
theorem space18_n (c s p m k out : Int) (w : World) (hm : MayB c s p m k = true) (h0 : out < 0) : Calls Try.prog 18 #[.agg #[.int .i64 c, .int .i64 s, .int .i64 p, .int .i64 m, .int .i64 k], .int .i64 out] w fun e w' => e = .returned (.int .i64 0) ∧ Below w.heap.size w w' := by
  have hu24 := Try.underlying24
  have hu49 := Try.underlying49
  go_enter Try.func18, Try.ntmps18
  go_wp2_with fail
  refine (check_t c s p m k _ hm).mono ?_
  rintro e w1 ⟨rfl, hb1⟩
  obtain ⟨hc, hf⟩ := bcell hb1
  have z1 : w.heap.size < w1.heap.size := by have := hb1.size; simp at this; omega
  go_wp2
  go_ret
  exact ⟨rfl, (by repeat (first | with_reducible exact Below.refl _ _ | with_reducible assumption | with_reducible refine Below.drew ?_ | with_reducible refine below_dN ?_ _ | with_reducible refine Below.setCell ?_ (by first | omega | (simp; done) | (simp; omega)) _ | with_reducible refine below_al ?_ (by first | omega | (simp; done) | (simp; omega)) _ | exact Below.refl _ _ | assumption | refine Below.drew ?_ | refine below_dN ?_ _ | refine Below.setCell ?_ (by first | omega | (simp; done) | (simp; omega)) _ | refine below_al ?_ (by first | omega | (simp; done) | (simp; omega)) _ | refine below_tr (by assumption) ?_ (by first | omega | (simp; done) | (simp; omega))))⟩
set_option maxHeartbeats 2000000 in
theorem space18_g (c s p m k out : Int) (w : World) (hm : MayB c s p m k = true) (h0 : 0 ≤ out) (h1 : c ≤ out) : Calls Try.prog 18 #[.agg #[.int .i64 c, .int .i64 s, .int .i64 p, .int .i64 m, .int .i64 k], .int .i64 out] w fun e w' => e = .returned (.int .i64 0) ∧ Below w.heap.size w w' := by
  have hu24 := Try.underlying24
  have hu49 := Try.underlying49
  go_enter Try.func18, Try.ntmps18
  go_wp2_with fail
  refine (check_t c s p m k _ hm).mono ?_
  rintro e w1 ⟨rfl, hb1⟩
  obtain ⟨hc, hf⟩ := bcell hb1
  have z1 : w.heap.size < w1.heap.size := by have := hb1.size; simp at this; omega
  go_wp2
  go_ret
  exact ⟨rfl, (by repeat (first | with_reducible exact Below.refl _ _ | with_reducible assumption | with_reducible refine Below.drew ?_ | with_reducible refine below_dN ?_ _ | with_reducible refine Below.setCell ?_ (by first | omega | (simp; done) | (simp; omega)) _ | with_reducible refine below_al ?_ (by first | omega | (simp; done) | (simp; omega)) _ | exact Below.refl _ _ | assumption | refine Below.drew ?_ | refine below_dN ?_ _ | refine Below.setCell ?_ (by first | omega | (simp; done) | (simp; omega)) _ | refine below_al ?_ (by first | omega | (simp; done) | (simp; omega)) _ | refine below_tr (by assumption) ?_ (by first | omega | (simp; done) | (simp; omega))))⟩
set_option maxHeartbeats 2000000 in
theorem space18_t (c s p m k out : Int) (w : World) (hm : MayB c s p m k = true) (h0 : 0 ≤ out) (h1 : out < c) : Calls Try.prog 18 #[.agg #[.int .i64 c, .int .i64 s, .int .i64 p, .int .i64 m, .int .i64 k], .int .i64 out] w fun e w' => e = .returned (.int .i64 (c - out)) ∧ Below w.heap.size w w' := by
  have hu24 := Try.underlying24
  have hu49 := Try.underlying49
  obtain ⟨q0, q1, q2, q3, q4, q5, q6, q7, q8, q9⟩ := MayB_t hm
  go_enter Try.func18, Try.ntmps18
  go_wp2_with fail
  refine (check_t c s p m k _ hm).mono ?_
  rintro e w1 ⟨rfl, hb1⟩
  obtain ⟨hc, hf⟩ := bcell hb1
  have z1 : w.heap.size < w1.heap.size := by have := hb1.size; simp at this; omega
  go_wp2
  go_ret
  exact ⟨rfl, (by repeat (first | with_reducible exact Below.refl _ _ | with_reducible assumption | with_reducible refine Below.drew ?_ | with_reducible refine below_dN ?_ _ | with_reducible refine Below.setCell ?_ (by first | omega | (simp; done) | (simp; omega)) _ | with_reducible refine below_al ?_ (by first | omega | (simp; done) | (simp; omega)) _ | exact Below.refl _ _ | assumption | refine Below.drew ?_ | refine below_dN ?_ _ | refine Below.setCell ?_ (by first | omega | (simp; done) | (simp; omega)) _ | refine below_al ?_ (by first | omega | (simp; done) | (simp; omega)) _ | refine below_tr (by assumption) ?_ (by first | omega | (simp; done) | (simp; omega))))⟩
set_option maxHeartbeats 2000000 in
theorem space19_f (c s p m k out : Int) (w : World) (hm : MayB c s p m k = false) : Calls Try.prog 19 #[.agg #[.int .i64 c, .int .i64 s, .int .i64 p, .int .i64 m, .int .i64 k], .int .i64 out] w fun e w' => e = .returned (.int .i64 0) ∧ Below w.heap.size w w' := by
  have hu24 := Try.underlying24
  have hu49 := Try.underlying49
  go_enter Try.func19, Try.ntmps19
  go_wp2_with fail
  refine (rmay c s p m k _).mono ?_
  rw [hm]
  rintro e w1 ⟨rfl, hb1⟩
  obtain ⟨hc, hf⟩ := bcell hb1
  have z1 : w.heap.size < w1.heap.size := by have := hb1.size; simp at this; omega
  go_wp2
  go_ret
  exact ⟨rfl, (by repeat (first | with_reducible exact Below.refl _ _ | with_reducible assumption | with_reducible refine Below.drew ?_ | with_reducible refine below_dN ?_ _ | with_reducible refine Below.setCell ?_ (by first | omega | (simp; done) | (simp; omega)) _ | with_reducible refine below_al ?_ (by first | omega | (simp; done) | (simp; omega)) _ | exact Below.refl _ _ | assumption | refine Below.drew ?_ | refine below_dN ?_ _ | refine Below.setCell ?_ (by first | omega | (simp; done) | (simp; omega)) _ | refine below_al ?_ (by first | omega | (simp; done) | (simp; omega)) _ | refine below_tr (by assumption) ?_ (by first | omega | (simp; done) | (simp; omega))))⟩
set_option maxHeartbeats 2000000 in
theorem space19_n (c s p m k out : Int) (w : World) (hm : MayB c s p m k = true) (h0 : out < 0) : Calls Try.prog 19 #[.agg #[.int .i64 c, .int .i64 s, .int .i64 p, .int .i64 m, .int .i64 k], .int .i64 out] w fun e w' => e = .returned (.int .i64 0) ∧ Below w.heap.size w w' := by
  have hu24 := Try.underlying24
  have hu49 := Try.underlying49
  go_enter Try.func19, Try.ntmps19
  go_wp2_with fail
  refine (rmay c s p m k _).mono ?_
  rw [hm]
  rintro e w1 ⟨rfl, hb1⟩
  obtain ⟨hc, hf⟩ := bcell hb1
  have z1 : w.heap.size < w1.heap.size := by have := hb1.size; simp at this; omega
  go_wp2
  go_ret
  exact ⟨rfl, (by repeat (first | with_reducible exact Below.refl _ _ | with_reducible assumption | with_reducible refine Below.drew ?_ | with_reducible refine below_dN ?_ _ | with_reducible refine Below.setCell ?_ (by first | omega | (simp; done) | (simp; omega)) _ | with_reducible refine below_al ?_ (by first | omega | (simp; done) | (simp; omega)) _ | exact Below.refl _ _ | assumption | refine Below.drew ?_ | refine below_dN ?_ _ | refine Below.setCell ?_ (by first | omega | (simp; done) | (simp; omega)) _ | refine below_al ?_ (by first | omega | (simp; done) | (simp; omega)) _ | refine below_tr (by assumption) ?_ (by first | omega | (simp; done) | (simp; omega))))⟩
set_option maxHeartbeats 2000000 in
theorem space19_g (c s p m k out : Int) (w : World) (hm : MayB c s p m k = true) (h0 : 0 ≤ out) (h1 : c ≤ out) : Calls Try.prog 19 #[.agg #[.int .i64 c, .int .i64 s, .int .i64 p, .int .i64 m, .int .i64 k], .int .i64 out] w fun e w' => e = .returned (.int .i64 0) ∧ Below w.heap.size w w' := by
  have hu24 := Try.underlying24
  have hu49 := Try.underlying49
  go_enter Try.func19, Try.ntmps19
  go_wp2_with fail
  refine (rmay c s p m k _).mono ?_
  rw [hm]
  rintro e w1 ⟨rfl, hb1⟩
  obtain ⟨hc, hf⟩ := bcell hb1
  have z1 : w.heap.size < w1.heap.size := by have := hb1.size; simp at this; omega
  go_wp2
  go_ret
  exact ⟨rfl, (by repeat (first | with_reducible exact Below.refl _ _ | with_reducible assumption | with_reducible refine Below.drew ?_ | with_reducible refine below_dN ?_ _ | with_reducible refine Below.setCell ?_ (by first | omega | (simp; done) | (simp; omega)) _ | with_reducible refine below_al ?_ (by first | omega | (simp; done) | (simp; omega)) _ | exact Below.refl _ _ | assumption | refine Below.drew ?_ | refine below_dN ?_ _ | refine Below.setCell ?_ (by first | omega | (simp; done) | (simp; omega)) _ | refine below_al ?_ (by first | omega | (simp; done) | (simp; omega)) _ | refine below_tr (by assumption) ?_ (by first | omega | (simp; done) | (simp; omega))))⟩
set_option maxHeartbeats 2000000 in
theorem space19_t (c s p m k out : Int) (w : World) (hm : MayB c s p m k = true) (h0 : 0 ≤ out) (h1 : out < c) : Calls Try.prog 19 #[.agg #[.int .i64 c, .int .i64 s, .int .i64 p, .int .i64 m, .int .i64 k], .int .i64 out] w fun e w' => e = .returned (.int .i64 (c - out)) ∧ Below w.heap.size w w' := by
  have hu24 := Try.underlying24
  have hu49 := Try.underlying49
  obtain ⟨q0, q1, q2, q3, q4, q5, q6, q7, q8, q9⟩ := MayB_t hm
  go_enter Try.func19, Try.ntmps19
  go_wp2_with fail
  refine (rmay c s p m k _).mono ?_
  rw [hm]
  rintro e w1 ⟨rfl, hb1⟩
  obtain ⟨hc, hf⟩ := bcell hb1
  have z1 : w.heap.size < w1.heap.size := by have := hb1.size; simp at this; omega
  go_wp2
  go_ret
  exact ⟨rfl, (by repeat (first | with_reducible exact Below.refl _ _ | with_reducible assumption | with_reducible refine Below.drew ?_ | with_reducible refine below_dN ?_ _ | with_reducible refine Below.setCell ?_ (by first | omega | (simp; done) | (simp; omega)) _ | with_reducible refine below_al ?_ (by first | omega | (simp; done) | (simp; omega)) _ | exact Below.refl _ _ | assumption | refine Below.drew ?_ | refine below_dN ?_ _ | refine Below.setCell ?_ (by first | omega | (simp; done) | (simp; omega)) _ | refine below_al ?_ (by first | omega | (simp; done) | (simp; omega)) _ | refine below_tr (by assumption) ?_ (by first | omega | (simp; done) | (simp; omega))))⟩
theorem space_same (c s p m k out : Int) : ∃ r : Int, (∀ w, Calls Try.prog 18 #[.agg #[.int .i64 c, .int .i64 s, .int .i64 p, .int .i64 m, .int .i64 k], .int .i64 out] w fun e w' => e = .returned (.int .i64 r) ∧ Below w.heap.size w w') ∧ (∀ w, Calls Try.prog 19 #[.agg #[.int .i64 c, .int .i64 s, .int .i64 p, .int .i64 m, .int .i64 k], .int .i64 out] w fun e w' => e = .returned (.int .i64 r) ∧ Below w.heap.size w w') := by
  cases hm : MayB c s p m k
  · exact ⟨_, fun w => space18_f c s p m k out w hm, fun w => space19_f c s p m k out w hm⟩
  · by_cases h0 : out < 0
    · exact ⟨_, fun w => space18_n c s p m k out w hm h0, fun w => space19_n c s p m k out w hm h0⟩
    · by_cases h1 : c ≤ out
      · exact ⟨_, fun w => space18_g c s p m k out w hm (by omega) h1, fun w => space19_g c s p m k out w hm (by omega) h1⟩
      · exact ⟨_, fun w => space18_t c s p m k out w hm (by omega) (by omega), fun w => space19_t c s p m k out w hm (by omega) (by omega)⟩
theorem open_k (w : World) : Calls Try.prog 9 #[.int .i64 1000, .int .i64 100000, .int .i64 8000] w (Win 4000 8000 0 1000 100000 0 w) := by
  have h := popen_t 1000 100000 8000 w (by decide) (by decide)
  have e : mn (mx 8000 (4 * 1000)) 1073741824 = 8000 := by decide
  rw [e] at h
  exact h
theorem ack_k (w : World) : Calls Try.prog 10 #[.agg #[.int .i64 4000, .int .i64 8000, .int .i64 0, .int .i64 1000, .int .i64 100000], .int .i64 1000, .bool true, .bool true] w (Win 5000 8000 0 1000 100000 0 w) := by
  have h := pack_t 4000 8000 0 1000 100000 1000 true true w (by decide) (by decide)
  have e1 : ackC 4000 8000 0 1000 100000 1000 true = 5000 := by decide
  have e2 : ackP 4000 8000 0 1000 100000 1000 true = 0 := by decide
  rw [e1, e2] at h
  simpa using h
set_option maxHeartbeats 2000000 in
theorem awake (w : World) : Calls Try.prog 8 #[] w fun e w' => e = .returned (.bool true) ∧ Below w.heap.size w w' := by
  have hu24 := Try.underlying24
  go_enter Try.func8, Try.ntmps8
  go_wp2_with fail
  refine (open_k _).mono ?_
  rintro e w1 ⟨rfl, hb1⟩
  go_wp2_with fail
  refine (ack_k _).mono ?_
  rintro e w2 ⟨rfl, hb2⟩
  have r1 := (hb2.block w1.heap.size (by first | omega | (simp; done) | (simp; omega))).trans (al_new w1 _ _ rfl)
  have z2 : w1.heap.size < w2.heap.size := by have := hb2.size; simp at this; omega
  have hB2 : Below w.heap.size w w2 := (by repeat (first | with_reducible exact Below.refl _ _ | with_reducible assumption | with_reducible refine Below.drew ?_ | with_reducible refine below_dN ?_ _ | with_reducible refine Below.setCell ?_ (by first | omega | (simp; done) | (simp; omega)) _ | with_reducible refine below_al ?_ (by first | omega | (simp; done) | (simp; omega)) _ | exact Below.refl _ _ | assumption | refine Below.drew ?_ | refine below_dN ?_ _ | refine Below.setCell ?_ (by first | omega | (simp; done) | (simp; omega)) _ | refine below_al ?_ (by first | omega | (simp; done) | (simp; omega)) _ | refine below_tr (by assumption) ?_ (by first | omega | (simp; done) | (simp; omega))))
  clear hb2
  obtain ⟨⟨y0, y1, y2, y3, y4⟩, yf⟩ := five r1
  clear yf
  go_wp2
  go_ret
  exact ⟨rfl, (by repeat (first | with_reducible exact Below.refl _ _ | with_reducible assumption | with_reducible refine Below.drew ?_ | with_reducible refine below_dN ?_ _ | with_reducible refine Below.setCell ?_ (by first | omega | (simp; done) | (simp; omega)) _ | with_reducible refine below_al ?_ (by first | omega | (simp; done) | (simp; omega)) _ | exact Below.refl _ _ | assumption | refine Below.drew ?_ | refine below_dN ?_ _ | refine Below.setCell ?_ (by first | omega | (simp; done) | (simp; omega)) _ | refine below_al ?_ (by first | omega | (simp; done) | (simp; omega)) _ | refine below_tr (by assumption) ?_ (by first | omega | (simp; done) | (simp; omega))))⟩
