/- The laws SplitShares and SplitPuts. -/
import Derived.Test.YtbcmgchclkjgeaaH
namespace Go.Proofs.Ytbcmgchclkjgeaa.C
open Go.RowKit
set_option linter.unusedVariables false
set_option linter.unusedSimpArgs false
attribute [local go_sem high] max2_mx min2_mn max_two min_two
attribute [local go_sem ↓] Go.wp_at_zero Go.wp_at_succ

def leftE (b p m win : Int) (xs : List Int) : Int := if checkF b p m xs = 0 then (if inB win 0 1073741824 = true then 0 else 5) else checkF b p m xs
def leftL (b p m win : Int) (xs : List Int) : List Int := if leftE b p m win xs = 0 then leftF b p win xs else []
theorem left_same (b p m win : Int) (A : Option Addr) (n c : Nat) (xs : List Int) :
    (∀ w, Rd .i64 w A n xs → Calls Try.prog 12 #[.agg #[.int .i64 b, .int .i64 p, .int .i64 m], .int .i64 win, .slice A n c] w (RetL (leftL b p m win xs) (leftE b p m win xs) w)) ∧
    (∀ w, Rd .i64 w A n xs → Calls Try.prog 14 #[.agg #[.int .i64 b, .int .i64 p, .int .i64 m], .int .i64 win, .slice A n c] w (RetL (leftL b p m win xs) (leftE b p m win xs) w)) := by
  by_cases h : checkF b p m xs = 0
  · cases hw : inB win 0 1073741824
    · have h1 : leftE b p m win xs = 5 := by unfold leftE; rw [if_pos h, hw]; rfl
      have h2 : leftL b p m win xs = [] := by unfold leftL; rw [h1]; rfl
      rw [h1, h2]
      exact ⟨fun w hr => left_far b p m win A n c xs w hr h hw, fun w hr => rleft_far b p m win A n c xs w hr h hw⟩
    · have h1 : leftE b p m win xs = 0 := by unfold leftE; rw [if_pos h, hw]; rfl
      have h2 : leftL b p m win xs = leftF b p win xs := by unfold leftL; rw [h1]; rfl
      rw [h1, h2]
      obtain ⟨b0, b1, p0, p1, m0, m1, hlen, hx, _⟩ := check_good h
      exact ⟨fun w hr => left_ok b p m win A n c xs w hr h hw (by omega) b1 p0 p1 (by have := hr.1; omega) hx, fun w hr => rleft_ok b p m win A n c xs w hr h hw (by omega) b1 p0 p1 (by have := hr.1; omega) hx⟩
  · have h1 : leftE b p m win xs = checkF b p m xs := by unfold leftE; rw [if_neg h]
    have h2 : leftL b p m win xs = [] := by unfold leftL; rw [h1, if_neg h]
    rw [h1, h2]
    exact ⟨fun w hr => left_bad b p m win A n c xs w hr h, fun w hr => rleft_bad b p m win A n c xs w hr h⟩
theorem share_same (b p m : Int) : ∃ r e, (∀ w, Calls Try.prog 8 #[.agg #[.int .i64 b, .int .i64 p, .int .i64 m]] w fun en w' => en = .returned (.tuple #[.int .i64 r, .int .i64 e]) ∧ Below w.heap.size w w') ∧
    (∀ w, Calls Try.prog 13 #[.agg #[.int .i64 b, .int .i64 p, .int .i64 m]] w fun en w' => en = .returned (.tuple #[.int .i64 r, .int .i64 e]) ∧ Below w.heap.size w w') := by
  cases h : mayB b p m
  · exact ⟨_, _, fun w => pshare_bad b p m w h, fun w => rshare_bad b p m w h⟩
  · exact ⟨_, _, fun w => pshare_ok b p m w h, fun w => rshare_ok b p m w h⟩

set_option maxHeartbeats 4000000 in
set_option maxRecDepth 100000 in
theorem walk_SplitShares (a0_0 a0_1 a0_2 a1 : Int) (a2 : Option Addr) (len2 cap2 : Nat) (z2 : List Int) (w : World) (w0_0 : (Lit.int .i64 a0_0).wf = true) (w0_1 : (Lit.int .i64 a0_1).wf = true) (w0_2 : (Lit.int .i64 a0_2).wf = true)
    (w1 : (Lit.int .i64 a1).wf = true) (w2 : Rd .i64 w a2 len2 z2 ∧ (∀ x ∈ z2, (Lit.int .i64 x).wf = true) ∧ len2 ≤ cap2 ∧ (a2 = none → cap2 = 0)) (y2 : len2 * 8 ≤ 140737488351232) :
    Calls Try.prog 5 #[.agg #[.int .i64 a0_0, .int .i64 a0_1, .int .i64 a0_2], .int .i64 a1, .slice a2 len2 cap2] w fun e w' => e = .returned (.bool true) ∧ Below w.heap.size w w' := by
  have HR := Lib.hid w2.1
  obtain ⟨s1, s2, hs1, hs2⟩ := share_same a0_0 a0_1 a0_2
  obtain ⟨hl1, hl2⟩ := left_same a0_0 a0_1 a0_2 a1 a2 len2 cap2 z2
  have HS1 := Lib.hid hs1
  have HS2 := Lib.hid hs2
  have HL1 := Lib.hid hl1
  have HL2 := Lib.hid hl2
  clear w2 y2 w0_0 w0_1 w0_2 w1 hs1 hs2 hl1 hl2
  have hu23 := Try.underlying23
  go_enter Try.func5, Try.ntmps5
  go_wp2_with fail
  refine (HS1.out _).mono ?_
  rintro e w1 ⟨rfl, hb1⟩
  obtain ⟨k1, f1⟩ := bcell hb1
  have z1 : w.heap.size < w1.heap.size := by have := hb1.size; simp at this; omega
  go_wp2_with fail
  refine (HS2.out _).mono ?_
  rintro e w2 ⟨rfl, hb2⟩
  obtain ⟨k2, f2⟩ := bcell hb2
  have z2' : w.heap.size < w2.heap.size := by have := hb2.size; omega
  go_wp2_with fail
  refine (HL1.out _ (Rd.below HR.out (by repeat (first | exact Below.refl _ _ | assumption | refine Below.drew ?_ | refine below_dN ?_ _ | refine Below.setCell ?_ (by first | omega | (simp; done) | (simp; omega)) _ | refine below_al ?_ (by first | omega | (simp; done) | (simp; omega)) _ | refine below_tr (by assumption) ?_ (by first | omega | (simp; done) | (simp; omega)))))).mono ?_
  rintro e w3 ⟨A3, c3, rfl, hr3, hb3⟩
  obtain ⟨k3, f3⟩ := bcell hb3
  have HR3 := Lib.hid hr3
  clear hr3
  have z3 : w.heap.size < w3.heap.size := by have := hb3.size; omega
  go_wp2_with fail
  refine (HL2.out _ (Rd.below HR.out (by repeat (first | exact Below.refl _ _ | assumption | refine Below.drew ?_ | refine below_dN ?_ _ | refine Below.setCell ?_ (by first | omega | (simp; done) | (simp; omega)) _ | refine below_al ?_ (by first | omega | (simp; done) | (simp; omega)) _ | refine below_tr (by assumption) ?_ (by first | omega | (simp; done) | (simp; omega)))))).mono ?_
  rintro e w4 ⟨A4, c4, rfl, hr4, hb4⟩
  obtain ⟨k4, f4⟩ := bcell hb4
  have HR4 := Lib.hid hr4
  have HR3' := Lib.hid (Rd.below HR3.out hb4)
  clear hr4
  have z4 : w.heap.size < w4.heap.size := by have := hb4.size; omega
  have hB4 : Below w.heap.size w w4 := (by repeat (first | exact Below.refl _ _ | assumption | refine Below.drew ?_ | refine below_dN ?_ _ | refine Below.setCell ?_ (by first | omega | (simp; done) | (simp; omega)) _ | refine below_al ?_ (by first | omega | (simp; done) | (simp; omega)) _ | refine below_tr (by assumption) ?_ (by first | omega | (simp; done) | (simp; omega))))
  have HRW := Lib.hid (Rd.below HR.out hB4)
  have q0 : w4.cell? ⟨w.heap.size, 0, none⟩ = some (.int .i64 a0_0) := by simp [go_sem, k1, k2, k3, k4, z1, z2', z3, z4]
  have q1 : w4.cell? ⟨w.heap.size, 1, none⟩ = some (.int .i64 a0_1) := by simp [go_sem, k1, k2, k3, k4, z1, z2', z3, z4]
  have q2 : w4.cell? ⟨w.heap.size, 2, none⟩ = some (.int .i64 a0_2) := by simp [go_sem, k1, k2, k3, k4, z1, z2', z3, z4]
  clear k1 k2 k3 k4 f1 f2 f3 f4
  go_wp2_with (first | (go_at_call 15; refine (total _ _ _ _ _ HRW.out).mono ?_; rintro e w' ⟨rfl, rfl⟩) | (go_at_call 16; refine (rtotal _ _ _ _ _ HRW.out).mono ?_; rintro e w' ⟨rfl, rfl⟩))
  go_region_held3 (fun w' => Below w4.heap.size w4 w' ∧ ∀ a : Addr, a.block < w4.heap.size → w'.cell? a = w4.cell? a) (first | exact keep0 _ | assumption | exact keepB (by repeat (first | exact Below.refl _ _ | assumption | refine Below.drew ?_ | refine below_dN ?_ _ | refine Below.setCell ?_ (by first | omega | (simp; done) | (simp; omega)) _ | refine below_al ?_ (by first | omega | (simp; done) | (simp; omega)) _ | refine below_tr (by assumption) ?_ (by first | omega | (simp; done) | (simp; omega)))) | exact keep1 (by assumption) (by first | assumption | exact (Below.refl _ _).drew | exact And.left (by assumption)) (by first | omega | (simp; done) | (simp; omega))) (first | (go_at_call 17; refine (same_eq _ _ _ _ _ (leftL a0_0 a0_1 a0_2 a1 z2) _ (Rd.below HR3'.out (by first | assumption | exact (Below.refl _ _).drew | exact And.left (by assumption))) (Rd.below HR4.out (by first | assumption | exact (Below.refl _ _).drew | exact And.left (by assumption)))).mono ?_; rintro e w' ⟨rfl, hbn⟩) | (go_at_call 18; refine (check _ _ _ _ _ _ z2 _ (Rd.below HRW.out (by first | assumption | exact (Below.refl _ _).drew | exact And.left (by assumption)))).mono ?_; rintro e w' ⟨rfl, hbn⟩) | (go_at_call 10; refine (rcheck _ _ _ _ _ _ z2 _ (Rd.below HRW.out (by first | assumption | exact (Below.refl _ _).drew | exact And.left (by assumption)))).mono ?_; rintro e w' ⟨rfl, hbn⟩) | (go_at_call 9; refine (awake _).mono ?_; rintro e w' ⟨rfl, hbn⟩))
  go_wp2
  go_ret
  exact ⟨rfl, hB4.trans (Below.mono (And.left ‹Below w4.heap.size w4 _ ∧ _›) hB4.size)⟩

set_option maxHeartbeats 4000000 in
set_option maxRecDepth 100000 in
theorem walk_SplitPuts (a0_0 a0_1 a0_2 a1 a2 : Int) (a3 : Option Addr) (len3 cap3 : Nat) (z3 : List Int) (w : World) (w0_0 : (Lit.int .i64 a0_0).wf = true) (w0_1 : (Lit.int .i64 a0_1).wf = true) (w0_2 : (Lit.int .i64 a0_2).wf = true)
    (w1 : (Lit.int .i64 a1).wf = true) (w2 : (Lit.int .i64 a2).wf = true) (w3 : Rd .i64 w a3 len3 z3 ∧ (∀ x ∈ z3, (Lit.int .i64 x).wf = true) ∧ len3 ≤ cap3 ∧ (a3 = none → cap3 = 0)) (y3 : len3 * 8 ≤ 140737488351232) :
    Calls Try.prog 6 #[.agg #[.int .i64 a0_0, .int .i64 a0_1, .int .i64 a0_2], .int .i64 a1, .int .i64 a2, .slice a3 len3 cap3] w fun e w' => e = .returned (.bool true) ∧ Below w.heap.size w w' := by
  have HR := Lib.hid w3.1
  have HA := Lib.hid w3.2.2.2
  obtain ⟨i0, hi0, hz0, hz1, hz2⟩ := info_parts info3
  have hb2 := bounds_i64 w2
  obtain ⟨d0, d1⟩ := hb2
  clear w3 w0_0 w0_1 w0_2 w1 w2
  have hu23 := Try.underlying23
  go_enter Try.func6, Try.ntmps6
  go_wp2_with fail
  refine (pmay _ _ _ _ _ _ _ _ _ (Rd.below HR.out (by repeat (first | exact Below.refl _ _ | assumption | refine Below.drew ?_ | refine below_dN ?_ _ | refine Below.setCell ?_ (by first | omega | (simp; done) | (simp; omega)) _ | refine below_al ?_ (by first | omega | (simp; done) | (simp; omega)) _ | refine below_tr (by assumption) ?_ (by first | omega | (simp; done) | (simp; omega)))))).mono ?_
  rintro e w1 ⟨rfl, hb1⟩
  obtain ⟨k1, f1⟩ := bcell hb1
  have z1 : w.heap.size < w1.heap.size := by have := hb1.size; simp at this; omega
  go_wp2_with fail
  refine (qmay _ _ _ _ _ _ _ _ _ (Rd.below HR.out (by repeat (first | exact Below.refl _ _ | assumption | refine Below.drew ?_ | refine below_dN ?_ _ | refine Below.setCell ?_ (by first | omega | (simp; done) | (simp; omega)) _ | refine below_al ?_ (by first | omega | (simp; done) | (simp; omega)) _ | refine below_tr (by assumption) ?_ (by first | omega | (simp; done) | (simp; omega)))))).mono ?_
  rintro e w2 ⟨rfl, hb2⟩
  obtain ⟨k2, f2⟩ := bcell hb2
  have z2 : w.heap.size < w2.heap.size := by have := hb2.size; omega
  have hB2 : Below w.heap.size w w2 := (by repeat (first | exact Below.refl _ _ | assumption | refine Below.drew ?_ | refine below_dN ?_ _ | refine Below.setCell ?_ (by first | omega | (simp; done) | (simp; omega)) _ | refine below_al ?_ (by first | omega | (simp; done) | (simp; omega)) _ | refine below_tr (by assumption) ?_ (by first | omega | (simp; done) | (simp; omega))))
  have q0 : w2.cell? ⟨w.heap.size, 0, none⟩ = some (.int .i64 a0_0) := by simp [go_sem, k1, k2, z1, z2]
  have q1 : w2.cell? ⟨w.heap.size, 1, none⟩ = some (.int .i64 a0_1) := by simp [go_sem, k1, k2, z1, z2]
  have q2 : w2.cell? ⟨w.heap.size, 2, none⟩ = some (.int .i64 a0_2) := by simp [go_sem, k1, k2, z1, z2]
  clear k1 k2 f1 f2
  go_wp2_with (at_builtin; go_must (refine wpList_append_rd rfl _ _ _ rfl w2.heap.size 3 i0 Try.underlying29 hi0 hz0 hz1 hz2 _ 0 [] rfl (own_empty w2 w2.heap.size 3 (Nat.le_refl _)) a3 len3 cap3 z3 rfl (Rd.below HR.out (by repeat (first | exact Below.refl _ _ | assumption | refine Below.drew ?_ | refine below_dN ?_ _ | refine Below.setCell ?_ (by first | omega | (simp; done) | (simp; omega)) _ | refine below_al ?_ (by first | omega | (simp; done) | (simp; omega)) _ | refine below_tr (by assumption) ?_ (by first | omega | (simp; done) | (simp; omega))))) HA.out (by omega) (by simp) ?_; intro v2 w3 hown0 hg; have hb3 : Below w2.heap.size w2 w3 := below_app (W := w2.alloc (.cells #[] 3)) (by repeat (first | exact Below.refl _ _ | assumption | refine Below.drew ?_ | refine below_dN ?_ _ | refine Below.setCell ?_ (by first | omega | (simp; done) | (simp; omega)) _ | refine below_al ?_ (by first | omega | (simp; done) | (simp; omega)) _ | refine below_tr (by assumption) ?_ (by first | omega | (simp; done) | (simp; omega)))) (by simp) (own_empty w2 w2.heap.size 3 (Nat.le_refl _)) hg; have hown : w3.ownsRow w2.heap.size 3 1 v2 len3 (nums z3) := (by simpa using hown0); obtain ⟨A3, c3, rfl, hr3⟩ := Rd_own hown; have HR3 := Lib.hid hr3; obtain ⟨k3, f3⟩ := bcell hb3; have z3' : w.heap.size < w3.heap.size := (by have := hb3.size; omega); clear hown hown0 hg hr3))
  refine (put _ _ _ _ _ _ _ _ _ _ HR3.out d0 d1).mono ?_
  rintro e w4 ⟨A4, c4, rfl, hr4, hb4⟩
  obtain ⟨k4, f4⟩ := bcell hb4
  have z4 : w.heap.size < w4.heap.size := by have := hb4.size; omega
  have HR4 := Lib.hid hr4
  clear hr4
  go_wp2_with fail
  refine (rput _ _ _ _ _ _ _ _ _ _ (Rd.below HR.out (by repeat (first | exact Below.refl _ _ | assumption | refine Below.drew ?_ | refine below_dN ?_ _ | refine Below.setCell ?_ (by first | omega | (simp; done) | (simp; omega)) _ | refine below_al ?_ (by first | omega | (simp; done) | (simp; omega)) _ | refine below_tr (by assumption) ?_ (by first | omega | (simp; done) | (simp; omega))))) d0 d1).mono ?_
  rintro e w5 ⟨A5, c5, rfl, hr5, hb5⟩
  have HR5 := Lib.hid hr5
  have HR4' := Lib.hid (Rd.below HR4.out hb5)
  clear hr5 k3 f3 k4 f4
  go_wp2_with fail
  refine (same_eq _ _ _ _ _ _ _ HR4'.out HR5.out).mono ?_
  rintro e w6 ⟨rfl, hb6⟩
  go_wp2_with fail
  refine (same_eq _ _ _ _ _ z3 _ (Rd.below HR3.out (by repeat (first | exact Below.refl _ _ | assumption | refine Below.drew ?_ | refine below_dN ?_ _ | refine Below.setCell ?_ (by first | omega | (simp; done) | (simp; omega)) _ | refine below_al ?_ (by first | omega | (simp; done) | (simp; omega)) _ | refine below_tr (by assumption) ?_ (by first | omega | (simp; done) | (simp; omega))))) (Rd.below HR.out (by repeat (first | exact Below.refl _ _ | assumption | refine Below.drew ?_ | refine below_dN ?_ _ | refine Below.setCell ?_ (by first | omega | (simp; done) | (simp; omega)) _ | refine below_al ?_ (by first | omega | (simp; done) | (simp; omega)) _ | refine below_tr (by assumption) ?_ (by first | omega | (simp; done) | (simp; omega)))))).mono ?_
  rintro e w7 ⟨rfl, hb7⟩
  go_wp2_with (go_at_call 9; refine (awake _).mono ?_; rintro e w' ⟨rfl, hbn⟩)
  go_ret
  exact ⟨rfl, (by repeat (first | exact Below.refl _ _ | assumption | refine Below.drew ?_ | refine below_dN ?_ _ | refine Below.setCell ?_ (by first | omega | (simp; done) | (simp; omega)) _ | refine below_al ?_ (by first | omega | (simp; done) | (simp; omega)) _ | refine below_tr (by assumption) ?_ (by first | omega | (simp; done) | (simp; omega))))⟩
