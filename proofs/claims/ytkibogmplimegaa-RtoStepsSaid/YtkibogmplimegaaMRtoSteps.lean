/- What the functions of layer 10 compute, in plain numbers (over the printed functions of the law RtoSteps). -/
import Derived.Test.YtkibogmplimegaaPRtoStepsx3
namespace Go.Proofs.Ytkibogmplimegaa.MRtoSteps
open Go.RowKit Go.Proofs.Ytkibogmplimegaa.PRtoSteps Go.Proofs.YtkibogmplimegaaW.PrintWords Go.Proofs.YtkibogmplimegaaW.PrintLast
set_option linter.unusedVariables false

/-- a state that may be -/
def OkB (i m x : Int) (kn : Bool) (s v t : Int) : Prop :=
  1 ≤ m ∧ m ≤ i ∧ i ≤ x ∧ x ≤ 1048576 ∧ 0 ≤ s ∧ s ≤ 8388608 ∧ 0 ≤ v ∧ v ≤ 8388608 ∧ (kn = true ∨ (s = 0 ∧ v = 0)) ∧ m ≤ t ∧ t ≤ x

theorem wid (x : Int) (h : -9223372036854775808 ≤ x ∧ x ≤ 9223372036854775807) : wrap64 x = x := by unfold wrap64; omega
theorem mx_def (a b : Int) : mx a b = if a ≤ b then b else a := by unfold mx; split <;> split <;> omega
theorem mn_def (a b : Int) : mn a b = if a ≤ b then a else b := by unfold mn; split <;> split <;> omega

theorem bounds_eq (i m x : Int) (kn : Bool) (s v t : Int) : rto_estimator_bounds.f i m x kn s v t = some (decide (1 ≤ m ∧ m ≤ i ∧ i ≤ x ∧ x ≤ 1048576)) := by
  unfold rto_estimator_bounds.f
  repeat' split
  all_goals (congr 1; first | (rw [decide_eq_decide]; omega) | (symm; rw [decide_eq_false_iff_not]; omega))
theorem may_iff (i m x : Int) (kn : Bool) (s v t : Int) : ∃ e, rto_estimator_may.f i m x kn s v t = some e ∧ (e = 0 ↔ OkB i m x kn s v t) ∧ (e = 0 ∨ e = 1 ∨ e = 100) ∧ (e = 100 ↔ ¬ (1 ≤ m ∧ m ≤ i ∧ i ≤ x ∧ x ≤ 1048576)) := by
  unfold rto_estimator_may.f OkB
  rw [bounds_eq]
  simp only [Option.bind_some, decide_eq_true_eq]
  have hk : (false = true ∨ (s = 0 ∧ v = 0)) ↔ (s = 0 ∧ v = 0) := by simp
  have hk' : ∀ q : Prop, ((true = true ∨ (s = 0 ∧ v = 0)) ∧ q) ↔ q := by simp
  cases kn
  · rw [hk]
    simp only [↓reduceIte, Bool.false_eq_true]
    repeat' split
    all_goals first | contradiction | (refine ⟨_, rfl, ?_, ?_, ?_⟩ <;> omega)
  · rw [hk']
    simp only [↓reduceIte]
    repeat' split
    all_goals first | contradiction | (refine ⟨_, rfl, ?_, ?_, ?_⟩ <;> omega)
theorem may_ok {i m x : Int} {kn : Bool} {s v t : Int} (h : OkB i m x kn s v t) : rto_estimator_may.f i m x kn s v t = some 0 := by
  obtain ⟨e, h1, h2, _⟩ := may_iff i m x kn s v t
  rw [h1, h2.2 h]
/-- what a measurement makes of a state that may be -/
def nS (kn : Bool) (s n : Int) : Int := if kn = true then s + (n - s / 8) else 8 * n
def nV (kn : Bool) (s v n : Int) : Int := if kn = true then v + (mx (n - s / 8) (-(n - s / 8)) - v / 4) else 2 * n
def nT (m x s v : Int) : Int := mx m (mn (s / 8 + mx v 1) x)
theorem measure_ok {i m x : Int} {kn : Bool} {s v t n : Int} (h : OkB i m x kn s v t) (h0 : 0 ≤ n) (h1 : n ≤ 1048576) (k : Nat) :
    rto_Measure.f (k + 1) i m x kn s v t n = some (true, nS kn s n, nV kn s v n, nT m x (nS kn s n) (nV kn s v n), 0) := by
  unfold rto_Measure.f
  rw [may_ok h]
  simp only [Option.bind_some, if_true]
  rw [if_neg (by omega), show decide (n > 1048576) = false from by simp; omega]
  unfold rto_Measure.j0 rto_within_int.f
  obtain ⟨a1, a2, a3, a4, a5, a6, a7, a8, a9, a10, a11⟩ := h
  have e1 : Int.tdiv s 8 = s / 8 := Int.tdiv_eq_ediv_of_nonneg a5
  have e2 : Int.tdiv v 4 = v / 4 := Int.tdiv_eq_ediv_of_nonneg a7
  have e3 : Int.tdiv (8 * n) 8 = n := by rw [Int.tdiv_eq_ediv_of_nonneg (by omega)]; omega
  have e4 : Int.tdiv (s + (n - s / 8)) 8 = (s + (n - s / 8)) / 8 := Int.tdiv_eq_ediv_of_nonneg (by omega)
  cases kn
  · simp only [nS, nV, nT, Bool.false_eq_true, if_false, Option.bind_some, e1, e2]
    rw [wid (8 * n) (by omega), e3, wid n (by omega), wid (2 * n) (by omega), wid (n + mx (2 * n) 1) (by rw [mx_def]; split <;> omega), show 8 * n / 8 = n from by omega]
  · simp only [nS, nV, nT, Bool.false_eq_true, if_false, if_true, Option.bind_some, e1, e2]
    have w1 : wrap64 (s / 8) = s / 8 := wid _ (by omega)
    have w2 : wrap64 (n - s / 8) = n - s / 8 := wid _ (by omega)
    have w3 : wrap64 (-(n - s / 8)) = -(n - s / 8) := wid _ (by omega)
    have w4 : wrap64 (v / 4) = v / 4 := wid _ (by omega)
    have w5 : wrap64 (s + (n - s / 8)) = s + (n - s / 8) := wid _ (by omega)
    have w6 : wrap64 (mx (n - s / 8) (-(n - s / 8)) - v / 4) = mx (n - s / 8) (-(n - s / 8)) - v / 4 := wid _ (by rw [mx_def]; split <;> omega)
    have w7 : wrap64 (v + (mx (n - s / 8) (-(n - s / 8)) - v / 4)) = v + (mx (n - s / 8) (-(n - s / 8)) - v / 4) := wid _ (by rw [mx_def]; split <;> omega)
    have w8 : wrap64 ((s + (n - s / 8)) / 8) = (s + (n - s / 8)) / 8 := wid _ (by omega)
    rw [w1, w2, w3, w4, w5, e4, w8, w6, w7]
    rw [wid ((s + (n - s / 8)) / 8 + mx (v + (mx (n - s / 8) (-(n - s / 8)) - v / 4)) 1) (by simp only [mx_def]; split <;> split <;> omega)]
theorem nT_range {m x : Int} (h : m ≤ x) (s v : Int) : m ≤ nT m x s v ∧ nT m x s v ≤ x := by
  unfold nT
  generalize s / 8 + mx v 1 = y
  simp only [mx_def, mn_def]
  repeat' split
  all_goals omega
theorem abs_range (d : Int) : (0 ≤ d → mx d (-d) = d) ∧ (d ≤ 0 → mx d (-d) = -d) := by
  simp only [mx_def]
  repeat' split
  all_goals omega
theorem nS_range {i m x : Int} {kn : Bool} {s v t n : Int} (h : OkB i m x kn s v t) (h0 : 0 ≤ n) (h1 : n ≤ 1048576) :
    OkB i m x true (nS kn s n) (nV kn s v n) (nT m x (nS kn s n) (nV kn s v n)) := by
  obtain ⟨a1, a2, a3, a4, a5, a6, a7, a8, a9, a10, a11⟩ := h
  have hT := nT_range (m := m) (x := x) (by omega) (nS kn s n) (nV kn s v n)
  have hA := abs_range (n - s / 8)
  have hS : 0 ≤ nS kn s n ∧ nS kn s n ≤ 8388608 := by
    unfold nS
    cases kn
    · simp only [Bool.false_eq_true, ↓reduceIte]; omega
    · simp only [↓reduceIte]; omega
  have hV : 0 ≤ nV kn s v n ∧ nV kn s v n ≤ 8388608 := by
    unfold nV
    cases kn
    · simp only [Bool.false_eq_true, ↓reduceIte]; omega
    · simp only [↓reduceIte]; omega
  exact ⟨a1, a2, a3, a4, hS.1, hS.2, hV.1, hV.2, .inl rfl, hT.1, hT.2⟩
theorem bounds_j {i m x : Int} : ropewalkref10_Bounds.f i m x = some (decide (1 ≤ m ∧ m ≤ i ∧ i ≤ x ∧ x ≤ 1048576)) := by
  unfold ropewalkref10_Bounds.f
  repeat' split
  all_goals (congr 1; first | (rw [decide_eq_decide]; omega) | (symm; rw [decide_eq_false_iff_not]; omega))
theorem check_j (k : Nat) (b kn : Bool) (s v t : Int) : ropewalkref10_Check.j0 (k + 1) b kn s v t = some (if b = true then 1 else if kn = true then 0 else if s = 0 ∧ v = 0 then 0 else 1) := by
  unfold ropewalkref10_Check.j0
  cases b <;> cases kn <;> simp only [↓reduceIte, Bool.false_eq_true]
  by_cases h1 : s = 0 <;> by_cases h2 : v = 0 <;> simp [h1, h2]
theorem check_ok (i m x : Int) (kn : Bool) (s v t : Int) (k : Nat) : ∃ e, ropewalkref10_Check.f (k + 1) i m x kn s v t = some e ∧ (e = 0 ↔ OkB i m x kn s v t) ∧ (e = 0 ∨ e = 1 ∨ e = 100) ∧ (e = 100 ↔ ¬ (1 ≤ m ∧ m ≤ i ∧ i ≤ x ∧ x ≤ 1048576)) := by
  unfold ropewalkref10_Check.f
  rw [bounds_j]
  simp only [Option.bind_some, decide_eq_true_eq, check_j, ↓reduceIte]
  by_cases hB : 1 ≤ m ∧ m ≤ i ∧ i ≤ x ∧ x ≤ 1048576
  · rw [if_pos hB]
    have hne : ∀ q : Prop, ¬ q → ((1 : Int) = 0 ↔ q) ∧ ((1 : Int) = 0 ∨ (1 : Int) = 1 ∨ (1 : Int) = 100) ∧ ((1 : Int) = 100 ↔ ¬ (1 ≤ m ∧ m ≤ i ∧ i ≤ x ∧ x ≤ 1048576)) := fun q hq => ⟨⟨fun h => by omega, fun h => absurd h hq⟩, by omega, by omega⟩
    by_cases c1 : s < 0
    · rw [if_pos c1]; exact ⟨1, rfl, hne _ (by unfold OkB; omega)⟩
    rw [if_neg c1]
    by_cases c2 : s > 8388608
    · rw [if_pos c2]; exact ⟨1, rfl, hne _ (by unfold OkB; omega)⟩
    rw [if_neg c2]
    by_cases c3 : v < 0
    · rw [if_pos c3]; exact ⟨1, rfl, hne _ (by unfold OkB; omega)⟩
    rw [if_neg c3]
    by_cases c4 : v > 8388608
    · rw [if_pos c4]; exact ⟨1, rfl, hne _ (by unfold OkB; omega)⟩
    rw [if_neg c4]
    by_cases c5 : t < m
    · rw [if_pos c5]; exact ⟨1, rfl, hne _ (by unfold OkB; omega)⟩
    rw [if_neg c5]
    by_cases c6 : t > x
    · rw [if_pos c6]; exact ⟨1, rfl, hne _ (by unfold OkB; omega)⟩
    rw [if_neg c6]
    cases kn
    · simp only [↓reduceIte, Bool.false_eq_true]
      by_cases c7 : s = 0 ∧ v = 0
      · rw [if_pos c7]; exact ⟨0, rfl, ⟨fun _ => ⟨by omega, by omega, by omega, by omega, by omega, by omega, by omega, by omega, .inr c7, by omega, by omega⟩, fun _ => rfl⟩, by omega, by omega⟩
      · rw [if_neg c7]; exact ⟨1, rfl, hne _ (by unfold OkB; simp; omega)⟩
    · exact ⟨0, rfl, ⟨fun _ => ⟨by omega, by omega, by omega, by omega, by omega, by omega, by omega, by omega, .inl rfl, by omega, by omega⟩, fun _ => rfl⟩, by omega, by omega⟩
  · rw [if_neg hB]
    exact ⟨100, rfl, ⟨fun h => by omega, fun h => by unfold OkB at h; omega⟩, by omega, by omega⟩
theorem awake_ok (k : Nat) : ropewalklaw10_awake.f (k + 1) = some true := by
  have h1 : OkB 3000 1000 60000 false 0 0 3000 := by unfold OkB; decide
  unfold ropewalklaw10_awake.f rto_Start.f
  rw [bounds_eq]
  simp only [Option.bind_some]
  rw [if_pos (by decide)]
  simp only [Option.bind_some]
  rw [measure_ok h1 (by decide) (by decide)]
  simp only [Option.bind_some]
  rw [measure_ok (nS_range h1 (by decide) (by decide)) (by decide) (by decide)]
  decide +kernel
theorem measure_bad {i m x : Int} {kn : Bool} {s v t n e : Int} (h : rto_estimator_may.f i m x kn s v t = some e) (he : e ≠ 0) (k : Nat) : rto_Measure.f (k + 1) i m x kn s v t n = some (false, 0, 0, 0, e) := by
  unfold rto_Measure.f
  rw [h]
  simp only [Option.bind_some]
  rw [if_neg he]
theorem measure_far {i m x : Int} {kn : Bool} {s v t n : Int} (h : OkB i m x kn s v t) (hn : n < 0 ∨ n > 1048576) (k : Nat) : rto_Measure.f (k + 1) i m x kn s v t n = some (false, 0, 0, 0, 5) := by
  unfold rto_Measure.f
  rw [may_ok h]
  simp only [Option.bind_some, ↓reduceIte]
  unfold rto_Measure.j0
  by_cases h0 : n < 0
  · rw [if_pos h0]; rfl
  · rw [if_neg h0, decide_eq_true (show n > 1048576 by omega)]; rfl
end Go.Proofs.Ytkibogmplimegaa.MRtoSteps
