/- Contracts of the reference's functions of layer 10. -/
import Derived.Test.YtkibogmplimegaaMRtoSteps
import Derived.Test.YtkibogmplimegaaK
namespace Go.Proofs.Ytkibogmplimegaa.WRtoSteps
open Go.Proofs.YtkibogmplimegaaW.PrintMore
open Go.RowKit Go.Proofs.Ytkibogmplimegaa.PRtoSteps Go.Proofs.Ytkibogmplimegaa.MRtoSteps Go.Proofs.YtkibogmplimegaaW.PrintWords Go.Proofs.YtkibogmplimegaaW.PrintLast
set_option linter.unusedVariables false
set_option linter.unusedSimpArgs false
theorem max2_mx (k k' : IntKind) (x y : Int) : Builtin.max2 (.int k x) (.int k' y) = pure (.int k (mx x y)) := max2_int k k' x y
theorem min2_mn (k k' : IntKind) (x y : Int) : Builtin.min2 (.int k x) (.int k' y) = pure (.int k (mn x y)) := min2_int k k' x y
attribute [local go_sem high] max2_mx min2_mn Go.Proofs.YtkibogmplimegaaW.PrintMore.max_two Go.Proofs.YtkibogmplimegaaW.PrintMore.min_two

theorem bcell {W w1 : World} (hb : Below W.heap.size W w1) : (∀ b o, b < W.heap.size → w1.cell? ⟨b, o, none⟩ = W.cell? ⟨b, o, none⟩) ∧ (∀ b o, b < W.heap.size → w1.frozen? ⟨b, o, none⟩ = W.frozen? ⟨b, o, none⟩) :=
  ⟨fun b o h => hb.cell (p := ⟨b, o, none⟩) h, fun b o h => hb.frozen (p := ⟨b, o, none⟩) h⟩
abbrev TV (i m x : Int) : Value := .agg #[.int .i64 i, .int .i64 m, .int .i64 x]
abbrev RV (kn : Bool) (s v t : Int) : Value := .agg #[.bool kn, .int .i64 s, .int .i64 v, .int .i64 t]

set_option maxHeartbeats 1000000 in
theorem rmeasure_bad (i m x : Int) (kn : Bool) (s v t n e : Int) (w : World) (he : ropewalkref10_Check.f 1 i m x kn s v t = some e) (h : e ≠ 0) :
    Calls Try.prog 12 #[.agg #[.int .i64 i, .int .i64 m, .int .i64 x], .agg #[.bool kn, .int .i64 s, .int .i64 v, .int .i64 t], .int .i64 n] w fun r w' => r = .returned (.tuple #[.agg #[.bool false, .int .i64 0, .int .i64 0, .int .i64 0], .int .i64 e]) ∧ Below w.heap.size w w' := by
  have hu23 := Try.underlying23
  have hu25 := Try.underlying25
  have h' : (e != 0) = true := by simpa using h
  have HE := Lib.hid he
  clear he h
  go_enter Try.func12, Try.ntmps12
  go_wp2_with fail
  refine (ropewalkref10_Check.calls 1 _ _ _ _ _ _ _ e _ HE.out).mono ?_
  rintro r w1 ⟨rfl, hb⟩
  obtain ⟨hc, hf⟩ := bcell hb
  have hz0 : w.heap.size < w1.heap.size := by have := hb.size; simp at this; omega
  have hz1 : w.heap.size + 1 < w1.heap.size := by have := hb.size; simp at this; omega
  have hz2 : w.heap.size + 1 + 1 < w1.heap.size := by have := hb.size; simp at this; omega
  go_wp2
  exact bodyPost_ret (v := .tuple #[.agg #[.bool false, .int .i64 0, .int .i64 0, .int .i64 0], .int .i64 e]) (by simp [results, Try.results12, go_sem, hc]) rfl ⟨rfl, (by repeat (first | exact Below.refl _ _ | refine Below.drew ?_ | refine Below.setCell ?_ (by first | omega | (simp; done) | (simp; omega)) _ | refine Below.alloc ?_ (by first | omega | (simp; done) | (simp; omega)) _ | (refine Below.trans ?_ (Below.mono (by assumption) (by first | omega | (simp; done) | (simp; omega))))))⟩
set_option maxHeartbeats 1000000 in
theorem rmeasure_far (i m x : Int) (kn : Bool) (s v t n : Int) (w : World) (he : ropewalkref10_Check.f 1 i m x kn s v t = some 0) (h : n < 0 ∨ n > 1048576) :
    Calls Try.prog 12 #[.agg #[.int .i64 i, .int .i64 m, .int .i64 x], .agg #[.bool kn, .int .i64 s, .int .i64 v, .int .i64 t], .int .i64 n] w fun r w' => r = .returned (.tuple #[.agg #[.bool false, .int .i64 0, .int .i64 0, .int .i64 0], .int .i64 5]) ∧ Below w.heap.size w w' := by
  have hu23 := Try.underlying23
  have hu25 := Try.underlying25
  have HE := Lib.hid he
  clear he
  go_enter Try.func12, Try.ntmps12
  go_wp2_with fail
  refine (ropewalkref10_Check.calls 1 _ _ _ _ _ _ _ 0 _ HE.out).mono ?_
  rintro r w1 ⟨rfl, hb⟩
  obtain ⟨hc, hf⟩ := bcell hb
  have hz0 : w.heap.size < w1.heap.size := by have := hb.size; simp at this; omega
  have hz1 : w.heap.size + 1 < w1.heap.size := by have := hb.size; simp at this; omega
  have hz2 : w.heap.size + 1 + 1 < w1.heap.size := by have := hb.size; simp at this; omega
  by_cases h0 : n < 0
  all_goals
    go_wp2
    exact bodyPost_ret (v := .tuple #[.agg #[.bool false, .int .i64 0, .int .i64 0, .int .i64 0], .int .i64 5]) (by simp [results, Try.results12, go_sem, hc]) rfl ⟨rfl, (by repeat (first | exact Below.refl _ _ | refine Below.drew ?_ | refine Below.setCell ?_ (by first | omega | (simp; done) | (simp; omega)) _ | refine Below.alloc ?_ (by first | omega | (simp; done) | (simp; omega)) _ | (refine Below.trans ?_ (Below.mono (by assumption) (by first | omega | (simp; done) | (simp; omega))))))⟩
theorem nT_new (m x n : Int) (h : m ≤ x) (h0 : 0 ≤ n) (h1 : n ≤ 1048576) : nT m x (8 * n) (2 * n) = mn (mx (wrap64 (n + mx (2 * n) 1)) m) x := by
  unfold nT
  have e : 8 * n / 8 = n := by omega
  rw [e]
  have h2 : 1 ≤ mx (2 * n) 1 ∧ mx (2 * n) 1 ≤ 2097153 := by rw [mx_def]; split <;> omega
  generalize mx (2 * n) 1 = y at h2 ⊢
  rw [wid (n + y) (by omega)]
  simp only [mx_def, mn_def]
  repeat' split
  all_goals omega
theorem nT_old (m x a b : Int) (h : m ≤ x) (h0 : 0 ≤ a) (h1 : a ≤ 1048577) (h2 : 0 ≤ b) (h3 : b ≤ 16777216) : mx m (mn (a + mx b 1) x) = mn (mx (wrap64 (a + mx b 1)) m) x := by
  have h2 : 1 ≤ mx b 1 ∧ mx b 1 ≤ 16777216 := by rw [mx_def]; split <;> omega
  generalize mx b 1 = y at h2 ⊢
  rw [wid (a + y) (by omega)]
  simp only [mx_def, mn_def]
  repeat' split
  all_goals omega
set_option maxHeartbeats 1000000 in
theorem rmeasure_new (i m x : Int) (s v t n : Int) (w : World) (he : ropewalkref10_Check.f 1 i m x false s v t = some 0) (h0 : 0 ≤ n) (h1 : n ≤ 1048576) (hmx : m ≤ x) :
    Calls Try.prog 12 #[.agg #[.int .i64 i, .int .i64 m, .int .i64 x], .agg #[.bool false, .int .i64 s, .int .i64 v, .int .i64 t], .int .i64 n] w fun r w' => r = .returned (.tuple #[.agg #[.bool true, .int .i64 (8 * n), .int .i64 (2 * n), .int .i64 (nT m x (8 * n) (2 * n))], .int .i64 0]) ∧ Below w.heap.size w w' := by
  have hu23 := Try.underlying23
  have hu25 := Try.underlying25
  have HE := Lib.hid he
  have HT := Lib.hid (nT_new m x n hmx h0 h1)
  clear he hmx
  go_enter Try.func12, Try.ntmps12
  go_wp2_with fail
  refine (ropewalkref10_Check.calls 1 _ _ _ _ _ _ _ 0 _ HE.out).mono ?_
  rintro r w1 ⟨rfl, hb⟩
  obtain ⟨hc, hf⟩ := bcell hb
  have hz0 : w.heap.size < w1.heap.size := by have := hb.size; simp at this; omega
  have hz1 : w.heap.size + 1 < w1.heap.size := by have := hb.size; simp at this; omega
  have hz2 : w.heap.size + 1 + 1 < w1.heap.size := by have := hb.size; simp at this; omega
  go_wp2
  exact bodyPost_ret (v := .tuple #[.agg #[.bool true, .int .i64 (8 * n), .int .i64 (2 * n), .int .i64 (mn (mx (wrap64 (n + mx (2 * n) 1)) m) x)], .int .i64 0]) (by simp [results, Try.results12, go_sem, hc, hz0, hz1, hz2]) rfl ⟨by rw [HT.out], (by repeat (first | exact Below.refl _ _ | refine Below.drew ?_ | refine Below.setCell ?_ (by first | omega | (simp; done) | (simp; omega)) _ | refine Below.alloc ?_ (by first | omega | (simp; done) | (simp; omega)) _ | (refine Below.trans ?_ (Below.mono (by assumption) (by first | omega | (simp; done) | (simp; omega))))))⟩
theorem old_neg (m x s v n : Int) (h : m ≤ x) (h0 : 0 ≤ n) (h1 : n ≤ 1048576) (hs0 : 0 ≤ s) (hs1 : s ≤ 8388608) (hv0 : 0 ≤ v) (hv1 : v ≤ 8388608) (hd : n - s / 8 < 0) :
    nS true s n = s + (n - s / 8) ∧ nV true s v n = v - v / 4 + -(n - s / 8) ∧ nT m x (nS true s n) (nV true s v n) = mn (mx (wrap64 ((s + (n - s / 8)) / 8 + mx (v - v / 4 + -(n - s / 8)) 1)) m) x := by
  have e1 : nS true s n = s + (n - s / 8) := rfl
  have e2 : nV true s v n = v - v / 4 + -(n - s / 8) := by
    show v + (mx (n - s / 8) (-(n - s / 8)) - v / 4) = _
    rw [(abs_range (n - s / 8)).2 (by omega)]; omega
  refine ⟨e1, e2, ?_⟩
  rw [e1, e2]
  exact nT_old m x _ _ h (by omega) (by omega) (by omega) (by omega)
theorem old_pos (m x s v n : Int) (h : m ≤ x) (h0 : 0 ≤ n) (h1 : n ≤ 1048576) (hs0 : 0 ≤ s) (hs1 : s ≤ 8388608) (hv0 : 0 ≤ v) (hv1 : v ≤ 8388608) (hd : 0 ≤ n - s / 8) :
    nS true s n = s + (n - s / 8) ∧ nV true s v n = v - v / 4 + (n - s / 8) ∧ nT m x (nS true s n) (nV true s v n) = mn (mx (wrap64 ((s + (n - s / 8)) / 8 + mx (v - v / 4 + (n - s / 8)) 1)) m) x := by
  have e1 : nS true s n = s + (n - s / 8) := rfl
  have e2 : nV true s v n = v - v / 4 + (n - s / 8) := by
    show v + (mx (n - s / 8) (-(n - s / 8)) - v / 4) = _
    rw [(abs_range (n - s / 8)).1 (by omega)]; omega
  refine ⟨e1, e2, ?_⟩
  rw [e1, e2]
  exact nT_old m x _ _ h (by omega) (by omega) (by omega) (by omega)
set_option maxHeartbeats 1000000 in
theorem rmeasure_old (i m x : Int) (s v t n : Int) (w : World) (he : ropewalkref10_Check.f 1 i m x true s v t = some 0) (h0 : 0 ≤ n) (h1 : n ≤ 1048576) (hmx : m ≤ x) (hs0 : 0 ≤ s) (hs1 : s ≤ 8388608) (hv0 : 0 ≤ v) (hv1 : v ≤ 8388608) :
    Calls Try.prog 12 #[.agg #[.int .i64 i, .int .i64 m, .int .i64 x], .agg #[.bool true, .int .i64 s, .int .i64 v, .int .i64 t], .int .i64 n] w fun r w' => r = .returned (.tuple #[.agg #[.bool true, .int .i64 (nS true s n), .int .i64 (nV true s v n), .int .i64 (nT m x (nS true s n) (nV true s v n))], .int .i64 0]) ∧ Below w.heap.size w w' := by
  have hu23 := Try.underlying23
  have hu25 := Try.underlying25
  have HE := Lib.hid he
  have HN := Lib.hid (old_neg m x s v n hmx h0 h1 hs0 hs1 hv0 hv1)
  have HP := Lib.hid (old_pos m x s v n hmx h0 h1 hs0 hs1 hv0 hv1)
  clear he hmx
  go_enter Try.func12, Try.ntmps12
  go_wp2_with fail
  refine (ropewalkref10_Check.calls 1 _ _ _ _ _ _ _ 0 _ HE.out).mono ?_
  rintro r w1 ⟨rfl, hb⟩
  obtain ⟨hc, hf⟩ := bcell hb
  have hz0 : w.heap.size < w1.heap.size := by have := hb.size; simp at this; omega
  have hz1 : w.heap.size + 1 < w1.heap.size := by have := hb.size; simp at this; omega
  have hz2 : w.heap.size + 1 + 1 < w1.heap.size := by have := hb.size; simp at this; omega
  go_wp2
  · obtain ⟨q1, q2, q3⟩ := HN.out (by omega)
    exact bodyPost_ret (v := .tuple #[.agg #[.bool true, .int .i64 (s + (n - s / 8)), .int .i64 (v - v / 4 + -(n - s / 8)), .int .i64 (mn (mx (wrap64 ((s + (n - s / 8)) / 8 + mx (v - v / 4 + -(n - s / 8)) 1)) m) x)], .int .i64 0]) (by simp [results, Try.results12, go_sem, hc, hz0, hz1, hz2]) rfl ⟨by rw [q3, q2, q1], (by repeat (first | exact Below.refl _ _ | refine Below.drew ?_ | refine Below.setCell ?_ (by first | omega | (simp; done) | (simp; omega)) _ | refine Below.alloc ?_ (by first | omega | (simp; done) | (simp; omega)) _ | (refine Below.trans ?_ (Below.mono (by assumption) (by first | omega | (simp; done) | (simp; omega))))))⟩
  · obtain ⟨q1, q2, q3⟩ := HP.out (by omega)
    exact bodyPost_ret (v := .tuple #[.agg #[.bool true, .int .i64 (s + (n - s / 8)), .int .i64 (v - v / 4 + (n - s / 8)), .int .i64 (mn (mx (wrap64 ((s + (n - s / 8)) / 8 + mx (v - v / 4 + (n - s / 8)) 1)) m) x)], .int .i64 0]) (by simp [results, Try.results12, go_sem, hc, hz0, hz1, hz2]) rfl ⟨by rw [q3, q2, q1], (by repeat (first | exact Below.refl _ _ | refine Below.drew ?_ | refine Below.setCell ?_ (by first | omega | (simp; done) | (simp; omega)) _ | refine Below.alloc ?_ (by first | omega | (simp; done) | (simp; omega)) _ | (refine Below.trans ?_ (Below.mono (by assumption) (by first | omega | (simp; done) | (simp; omega))))))⟩
set_option maxHeartbeats 1000000 in
theorem rbackoff_bad (i m x : Int) (kn : Bool) (s v t e : Int) (w : World) (he : ropewalkref10_Check.f 1 i m x kn s v t = some e) (h : e ≠ 0) :
    Calls Try.prog 13 #[.agg #[.int .i64 i, .int .i64 m, .int .i64 x], .agg #[.bool kn, .int .i64 s, .int .i64 v, .int .i64 t]] w fun r w' => r = .returned (.tuple #[.agg #[.bool false, .int .i64 0, .int .i64 0, .int .i64 0], .int .i64 e]) ∧ Below w.heap.size w w' := by
  have hu23 := Try.underlying23
  have hu25 := Try.underlying25
  have h' : (e != 0) = true := by simpa using h
  have HE := Lib.hid he
  clear he h
  go_enter Try.func13, Try.ntmps13
  go_wp2_with fail
  refine (ropewalkref10_Check.calls 1 _ _ _ _ _ _ _ e _ HE.out).mono ?_
  rintro r w1 ⟨rfl, hb⟩
  obtain ⟨hc, hf⟩ := bcell hb
  have hz0 : w.heap.size < w1.heap.size := by have := hb.size; simp at this; omega
  have hz1 : w.heap.size + 1 < w1.heap.size := by have := hb.size; simp at this; omega
  have hz2 : w.heap.size + 1 + 1 < w1.heap.size := by have := hb.size; simp at this; omega
  go_wp2
  exact bodyPost_ret (v := .tuple #[.agg #[.bool false, .int .i64 0, .int .i64 0, .int .i64 0], .int .i64 e]) (by simp [results, Try.results13, go_sem, hc]) rfl ⟨rfl, (by repeat (first | exact Below.refl _ _ | refine Below.drew ?_ | refine Below.setCell ?_ (by first | omega | (simp; done) | (simp; omega)) _ | refine Below.alloc ?_ (by first | omega | (simp; done) | (simp; omega)) _ | (refine Below.trans ?_ (Below.mono (by assumption) (by first | omega | (simp; done) | (simp; omega))))))⟩
set_option maxHeartbeats 1000000 in
theorem rbackoff_ok (i m x : Int) (kn : Bool) (s v t : Int) (w : World) (he : ropewalkref10_Check.f 1 i m x kn s v t = some 0) (h0 : 0 ≤ t) (h1 : t ≤ 1048576) :
    Calls Try.prog 13 #[.agg #[.int .i64 i, .int .i64 m, .int .i64 x], .agg #[.bool kn, .int .i64 s, .int .i64 v, .int .i64 t]] w fun r w' => r = .returned (.tuple #[.agg #[.bool kn, .int .i64 s, .int .i64 v, .int .i64 (mn (2 * t) x)], .int .i64 0]) ∧ Below w.heap.size w w' := by
  have hu23 := Try.underlying23
  have hu25 := Try.underlying25
  have HE := Lib.hid he
  clear he
  go_enter Try.func13, Try.ntmps13
  go_wp2_with fail
  refine (ropewalkref10_Check.calls 1 _ _ _ _ _ _ _ 0 _ HE.out).mono ?_
  rintro r w1 ⟨rfl, hb⟩
  obtain ⟨hc, hf⟩ := bcell hb
  have hz0 : w.heap.size < w1.heap.size := by have := hb.size; simp at this; omega
  have hz1 : w.heap.size + 1 < w1.heap.size := by have := hb.size; simp at this; omega
  have hz2 : w.heap.size + 1 + 1 < w1.heap.size := by have := hb.size; simp at this; omega
  go_wp2
  exact bodyPost_ret (v := .tuple #[.agg #[.bool kn, .int .i64 s, .int .i64 v, .int .i64 (mn (2 * t) x)], .int .i64 0]) (by simp [results, Try.results13, go_sem, hc, hz0, hz1, hz2]) rfl ⟨rfl, (by repeat (first | exact Below.refl _ _ | refine Below.drew ?_ | refine Below.setCell ?_ (by first | omega | (simp; done) | (simp; omega)) _ | refine Below.alloc ?_ (by first | omega | (simp; done) | (simp; omega)) _ | (refine Below.trans ?_ (Below.mono (by assumption) (by first | omega | (simp; done) | (simp; omega))))))⟩
def bndB (i m x : Int) : Bool := decide (1 ≤ m ∧ m ≤ i ∧ i ≤ x ∧ x ≤ 1048576)
theorem bnd_calls (i m x : Int) (w : World) : Calls Try.prog 18 #[.agg #[.int .i64 i, .int .i64 m, .int .i64 x]] w fun e w' => e = .returned (.bool (bndB i m x)) ∧ Below w.heap.size w w' :=
  ropewalkref10_Bounds.calls i m x _ w bounds_j
set_option maxHeartbeats 1000000 in
theorem rstart_ok (i m x : Int) (w : World) (hB : bndB i m x = true) :
    Calls Try.prog 15 #[.agg #[.int .i64 i, .int .i64 m, .int .i64 x]] w fun r w' => r = .returned (.tuple #[.agg #[.bool false, .int .i64 0, .int .i64 0, .int .i64 i], .int .i64 0]) ∧ Below w.heap.size w w' := by
  have hu23 := Try.underlying23
  have hu25 := Try.underlying25
  go_enter Try.func15, Try.ntmps15
  go_wp2_with fail
  refine (bnd_calls _ _ _ _).mono ?_
  rintro r w1 ⟨rfl, hb⟩
  obtain ⟨hc, hf⟩ := bcell hb
  have hz0 : w.heap.size < w1.heap.size := by have := hb.size; simp at this; omega
  have hz1 : w.heap.size + 1 < w1.heap.size := by have := hb.size; simp at this; omega
  go_wp2
  exact bodyPost_ret (v := .tuple #[.agg #[.bool false, .int .i64 0, .int .i64 0, .int .i64 i], .int .i64 0]) (by simp [results, Try.results15, go_sem, hc, hz0, hz1]) rfl ⟨rfl, (by repeat (first | exact Below.refl _ _ | refine Below.drew ?_ | refine Below.setCell ?_ (by first | omega | (simp; done) | (simp; omega)) _ | refine Below.alloc ?_ (by first | omega | (simp; done) | (simp; omega)) _ | (refine Below.trans ?_ (Below.mono (by assumption) (by first | omega | (simp; done) | (simp; omega))))))⟩
set_option maxHeartbeats 1000000 in
theorem rstart_bad (i m x : Int) (w : World) (hB : bndB i m x = false) :
    Calls Try.prog 15 #[.agg #[.int .i64 i, .int .i64 m, .int .i64 x]] w fun r w' => r = .returned (.tuple #[.agg #[.bool false, .int .i64 0, .int .i64 0, .int .i64 0], .int .i64 100]) ∧ Below w.heap.size w w' := by
  have hu23 := Try.underlying23
  have hu25 := Try.underlying25
  go_enter Try.func15, Try.ntmps15
  go_wp2_with fail
  refine (bnd_calls _ _ _ _).mono ?_
  rintro r w1 ⟨rfl, hb⟩
  obtain ⟨hc, hf⟩ := bcell hb
  have hz0 : w.heap.size < w1.heap.size := by have := hb.size; simp at this; omega
  have hz1 : w.heap.size + 1 < w1.heap.size := by have := hb.size; simp at this; omega
  go_wp2
  exact bodyPost_ret (v := .tuple #[.agg #[.bool false, .int .i64 0, .int .i64 0, .int .i64 0], .int .i64 100]) (by simp [results, Try.results15, go_sem, hc, hz0, hz1]) rfl ⟨rfl, (by repeat (first | exact Below.refl _ _ | refine Below.drew ?_ | refine Below.setCell ?_ (by first | omega | (simp; done) | (simp; omega)) _ | refine Below.alloc ?_ (by first | omega | (simp; done) | (simp; omega)) _ | (refine Below.trans ?_ (Below.mono (by assumption) (by first | omega | (simp; done) | (simp; omega))))))⟩
set_option maxHeartbeats 1000000 in
theorem rtrip (kn : Bool) (s v t : Int) (w : World) :
    Calls Try.prog 17 #[.agg #[.bool kn, .int .i64 s, .int .i64 v, .int .i64 t]] w fun r w' => r = .returned (.int .i64 (wrap64 (Int.tdiv (mx s 0) 8))) ∧ Below w.heap.size w w' := by
  have hu25 := Try.underlying25
  go_enter Try.func17, Try.ntmps17
  go_wp2
  go_ret
  exact ⟨rfl, (by repeat (first | exact Below.refl _ _ | refine Below.drew ?_ | refine Below.setCell ?_ (by first | omega | (simp; done) | (simp; omega)) _ | refine Below.alloc ?_ (by first | omega | (simp; done) | (simp; omega)) _ | (refine Below.trans ?_ (Below.mono (by assumption) (by first | omega | (simp; done) | (simp; omega))))))⟩
theorem pcheck (i m x : Int) (kn : Bool) (s v t e : Int) (w : World) (he : rto_estimator_may.f i m x kn s v t = some e) :
    Calls Try.prog 16 #[.agg #[.int .i64 i, .int .i64 m, .int .i64 x], .agg #[.bool kn, .int .i64 s, .int .i64 v, .int .i64 t]] w fun r w' => r = .returned (.int .i64 e) ∧ Below w.heap.size w w' := by
  have hu23 := Try.underlying23
  have hu25 := Try.underlying25
  have hu38 := Try.underlying38
  go_enter Try.func16, Try.ntmps16
  go_wp2_with fail
  refine (rto_estimator_may.calls _ _ _ _ _ _ _ e _ he).mono ?_
  rintro r w1 ⟨rfl, hb⟩
  go_wp2
  go_ret
  exact ⟨rfl, (by repeat (first | exact Below.refl _ _ | refine Below.drew ?_ | refine Below.setCell ?_ (by first | omega | (simp; done) | (simp; omega)) _ | refine Below.alloc ?_ (by first | omega | (simp; done) | (simp; omega)) _ | (refine Below.trans ?_ (Below.mono (by assumption) (by first | omega | (simp; done) | (simp; omega))))))⟩
end Go.Proofs.Ytkibogmplimegaa.WRtoSteps
