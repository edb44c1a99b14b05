/- A window behind an acknowledgement, in memory. -/
import Derived.Test.YtnmnoibkcnlbkaaD
namespace Go.Proofs.Ytnmnoibkcnlbkaa.C
open Go.RowKit
set_option linter.unusedVariables false
set_option linter.unusedSimpArgs false
attribute [local go_sem high] max2_mx min2_mn max_two min_two
attribute [local go_sem ↓] Go.wp_at_zero Go.wp_at_succ

theorem name_exit {Q : Exit → Act → World → Prop} {e : Exit} {a : Act} {w : World} (h : ∀ W, W = w → Q e a W) : Q e a w := h w rfl
/-- the window and its part behind n acknowledged bytes -/
def ackC (c s p m k n : Int) (full : Bool) : Int := if c ≤ s then (if full = true then mn k (c + mn n m) else c) else if c ≤ p + n then (if full = true then mn k (c + m) else c) else c
def ackP (c s p m k n : Int) (full : Bool) : Int := if c ≤ s then p else if c ≤ p + n then (if full = true then mn (p + n - c) (mn k (c + m)) else c) else p + n
set_option maxHeartbeats 4000000 in
theorem ack_ss (g : Nat) (c s p m k n : Int) (full : Bool) (w : World) (h : Bx w g c s p m k) (c0 : 0 ≤ c) (c1 : c ≤ 1073741824) (m0 : 0 ≤ m) (m1 : m ≤ 1500) (p0 : 0 ≤ p) (p1 : p ≤ c) (n0 : 0 ≤ n) (n1 : n ≤ 1073741824) (hcs : c ≤ s) :
    Calls Try.prog 30 #[.pointer (some ⟨g, 0, none⟩), .int .i64 n, .bool full] w (Chg w g (ackC c s p m k n full) s (ackP c s p m k n full) m k) := by
  have hu24 := Try.underlying24
  have hu49 := Try.underlying49
  have hmn : 0 ≤ mn n m ∧ mn n m ≤ 1073741824 := by rw [mn_def]; split <;> omega
  have hP : ackP c s p m k n full = p := by rw [ackP, if_pos hcs]
  have HH := Lib.hid h
  obtain ⟨⟨x0, x1, x2, x3, x4⟩, xf, xg⟩ := h.cells
  rw [hP]
  clear h xf hP
  cases full
  · have hC : ackC c s p m k n false = c := by rw [ackC, if_pos hcs]; rfl
    rw [hC]
    go_enter Try.func30, Try.ntmps30
    go_wp2_with fail
    go_quiet (fail)
    go_wp2
    go_end0
    exact ⟨rfl, HH.out, grown_below (below_drewN _ _ _)⟩
  · have hC : ackC c s p m k n true = mn k (c + mn n m) := by rw [ackC, if_pos hcs]; rfl
    rw [hC]
    go_enter Try.func30, Try.ntmps30
    go_wp2_with fail
    go_quiet (fail)
    refine name_exit ?_
    intro w2 hw2
    have H2 := Lib.hid (show Bx w2 g c s p m k by subst hw2; exact HH.out)
    have hg2 : w.grownBy w2 (some g) := by subst hw2; exact grown_below (below_drewN _ _ _)
    clear hw2 x0 x1 x2 x3 x4 xg
    obtain ⟨⟨x0, x1, x2, x3, x4⟩, xf, xg⟩ := H2.out.cells
    clear xf
    go_wp2_with fail
    refine (grow _ _ _ _ _ _ _ _ H2.out c0 c1 hmn.1 hmn.2).mono ?_
    rintro e w3 ⟨rfl, h3, g3⟩
    go_wp2
    go_end0
    exact ⟨rfl, h3, grown_tr hg2 g3⟩
-- MARK (below: genG.py)
theorem Bx.dN {w : World} {g : Nat} {c s p m k : Int} (h : Bx w g c s p m k) (d : Nat) : Bx (w.drewN d) g c s p m k := h
theorem grown_dN {a b : World} {r : Option Nat} (h : a.grownBy b r) (d : Nat) : a.grownBy (b.drewN d) r := ⟨h.os, h.tape, h.output, h.size, h.block⟩
set_option maxHeartbeats 8000000 in
theorem ack_full (g : Nat) (c s p m k n : Int) (w : World) (h : Bx w g c s p m k) (c0 : 0 ≤ c) (c1 : c ≤ 1073741824) (m0 : 0 ≤ m) (m1 : m ≤ 1500) (p0 : 0 ≤ p) (p1 : p ≤ c) (n0 : 0 ≤ n) (n1 : n ≤ 1073741824) (hcs : ¬ c ≤ s) (hpn : c ≤ p + n) :
    Calls Try.prog 30 #[.pointer (some ⟨g, 0, none⟩), .int .i64 n, .bool true] w (Chg w g (ackC c s p m k n true) s (ackP c s p m k n true) m k) := by
  have hu24 := Try.underlying24
  have hu49 := Try.underlying49
  have hw1 : IntKind.i64.wrap (p + n) = p + n := by rw [IntKind.wrap_i64]; omega
  have hw2 : IntKind.i64.wrap (p + n - c) = p + n - c := by rw [IntKind.wrap_i64]; omega
  have HH := Lib.hid h
  obtain ⟨⟨x0, x1, x2, x3, x4⟩, xf, xg⟩ := h.cells
  have f2 := xf 2
  clear h xf
  have hC : ackC c s p m k n true = mn k (c + m) := by rw [ackC, if_neg hcs, if_pos hpn]; rfl
  have hP : ackP c s p m k n true = mn (p + n - c) (mn k (c + m)) := by rw [ackP, if_neg hcs, if_pos hpn]; rfl
  rw [hC, hP]
  clear hC hP
  · go_enter Try.func30, Try.ntmps30
    go_wp2_with fail
    go_quiet (fail)
    go_wp2_with fail
    refine name_world ?_
    intro w2 hw2
    have H2 := Lib.hid (show Bx w2 g c s (p + n) m k by subst hw2; first | exact HH.out.set2 _ | exact Bx.dN (HH.out.set2 _) _ | exact (Bx.dN HH.out _).set2 _)
    have hg2 : w.grownBy w2 (some g) := by subst hw2; first | exact grown_dN (grown_set _ _ _ _) _ | exact grown_tr (grown_below (below_drewN _ _ _)) (grown_set _ _ _ _)
    clear hw2 x0 x1 x2 x3 x4 xg f2
    obtain ⟨⟨x0, x1, x2, x3, x4⟩, xf, xg⟩ := H2.out.cells
    have f2 := xf 2
    clear xf
    go_quiet (fail)
    refine name_exit ?_
    intro w3 hw3
    have H3 := Lib.hid (show Bx w3 g c s (p + n) m k by subst hw3; exact H2.out)
    have hg3 : w.grownBy w3 (some g) := by subst hw3; exact grown_tr hg2 (grown_below (below_drewN _ _ _))
    clear hw3 x0 x1 x2 x3 x4 xg f2
    obtain ⟨⟨x0, x1, x2, x3, x4⟩, xf, xg⟩ := H3.out.cells
    have f2 := xf 2
    clear xf
    go_wp2_with fail
    go_still_tail 14, (by kernel_rfl)
    change wpList _ _ _ _ _ w3.drew
    generalize hw4 : w3.drew = w4
    have H4 := Lib.hid (show Bx w4 g c s (p + n) m k by subst hw4; exact H3.out)
    have hg4 : w.grownBy w4 (some g) := by subst hw4; exact grown_drew hg3
    clear hw4 x0 x1 x2 x3 x4 xg f2
    obtain ⟨⟨x0, x1, x2, x3, x4⟩, xf, xg⟩ := H4.out.cells
    have f2 := xf 2
    clear xf
    go_wp2_with fail
    refine (grow g c s (p + n - c) m k m _ (by first | exact H4.out.set2 _ | exact (H4.out.set2 _).drew) c0 c1 m0 (by omega)).mono ?_
    rintro e w5 ⟨rfl, h5, g5⟩
    have H5 := Lib.hid h5
    have hg5 : w.grownBy w5 (some g) := grown_tr hg4 (grown_tr (grown_set _ _ _ _) g5)
    clear h5 g5 x0 x1 x2 x3 x4 xg f2
    obtain ⟨⟨x0, x1, x2, x3, x4⟩, xf, xg⟩ := H5.out.cells
    have f2 := xf 2
    clear xf
    go_wp2_with fail
    go_still_tail 15, (by kernel_rfl)
    change wpList _ _ _ _ _ w5.drew
    generalize hw9 : w5.drew = w9
    have H9 := Lib.hid (show Bx w9 g (mn k (c + m)) s (p + n - c) m k by subst hw9; exact H5.out)
    have hg9 : w.grownBy w9 (some g) := by subst hw9; exact grown_drew hg5
    clear hw9 x0 x1 x2 x3 x4 xg f2
    obtain ⟨⟨x0, x1, x2, x3, x4⟩, xf, xg⟩ := H9.out.cells
    have f2 := xf 2
    clear xf
    go_wp2
    go_end0
    exact ⟨rfl, H9.out.set2 _, grown_tr hg9 (grown_set _ _ _ _)⟩
set_option maxHeartbeats 8000000 in
theorem ack_part (g : Nat) (c s p m k n : Int) (w : World) (h : Bx w g c s p m k) (c0 : 0 ≤ c) (c1 : c ≤ 1073741824) (m0 : 0 ≤ m) (m1 : m ≤ 1500) (p0 : 0 ≤ p) (p1 : p ≤ c) (n0 : 0 ≤ n) (n1 : n ≤ 1073741824) (hcs : ¬ c ≤ s) (hpn : c ≤ p + n) :
    Calls Try.prog 30 #[.pointer (some ⟨g, 0, none⟩), .int .i64 n, .bool false] w (Chg w g (ackC c s p m k n false) s (ackP c s p m k n false) m k) := by
  have hu24 := Try.underlying24
  have hu49 := Try.underlying49
  have hw1 : IntKind.i64.wrap (p + n) = p + n := by rw [IntKind.wrap_i64]; omega
  have hw2 : IntKind.i64.wrap (p + n - c) = p + n - c := by rw [IntKind.wrap_i64]; omega
  have HH := Lib.hid h
  obtain ⟨⟨x0, x1, x2, x3, x4⟩, xf, xg⟩ := h.cells
  have f2 := xf 2
  clear h xf
  have hC : ackC c s p m k n false = c := by rw [ackC, if_neg hcs, if_pos hpn]; rfl
  have hP : ackP c s p m k n false = c := by rw [ackP, if_neg hcs, if_pos hpn]; rfl
  rw [hC, hP]
  clear hC hP
  · go_enter Try.func30, Try.ntmps30
    go_wp2_with fail
    go_quiet (fail)
    go_wp2_with fail
    refine name_world ?_
    intro w2 hw2
    have H2 := Lib.hid (show Bx w2 g c s (p + n) m k by subst hw2; first | exact HH.out.set2 _ | exact Bx.dN (HH.out.set2 _) _ | exact (Bx.dN HH.out _).set2 _)
    have hg2 : w.grownBy w2 (some g) := by subst hw2; first | exact grown_dN (grown_set _ _ _ _) _ | exact grown_tr (grown_below (below_drewN _ _ _)) (grown_set _ _ _ _)
    clear hw2 x0 x1 x2 x3 x4 xg f2
    obtain ⟨⟨x0, x1, x2, x3, x4⟩, xf, xg⟩ := H2.out.cells
    have f2 := xf 2
    clear xf
    go_quiet (fail)
    refine name_exit ?_
    intro w3 hw3
    have H3 := Lib.hid (show Bx w3 g c s (p + n) m k by subst hw3; exact H2.out)
    have hg3 : w.grownBy w3 (some g) := by subst hw3; exact grown_tr hg2 (grown_below (below_drewN _ _ _))
    clear hw3 x0 x1 x2 x3 x4 xg f2
    obtain ⟨⟨x0, x1, x2, x3, x4⟩, xf, xg⟩ := H3.out.cells
    have f2 := xf 2
    clear xf
    go_wp2_with fail
    refine name_world ?_
    intro w5 hw5
    have H5 := Lib.hid (show Bx w5 g c s c m k by subst hw5; exact H3.out.set2 _)
    have hg5 : w.grownBy w5 (some g) := by subst hw5; exact grown_tr hg3 (grown_set _ _ _ _)
    clear hw5 x0 x1 x2 x3 x4 xg f2
    obtain ⟨⟨x0, x1, x2, x3, x4⟩, xf, xg⟩ := H5.out.cells
    have f2 := xf 2
    clear xf
    have hmm : mn c c = c := by rw [mn_def]; simp
    go_still_tail 15, (by kernel_rfl)
    change wpList _ _ _ _ _ w5.drew
    generalize hw9 : w5.drew = w9
    have H9 := Lib.hid (show Bx w9 g c s (c) m k by subst hw9; exact H5.out)
    have hg9 : w.grownBy w9 (some g) := by subst hw9; exact grown_drew hg5
    clear hw9 x0 x1 x2 x3 x4 xg f2
    obtain ⟨⟨x0, x1, x2, x3, x4⟩, xf, xg⟩ := H9.out.cells
    have f2 := xf 2
    clear xf
    go_wp2
    go_end0
    exact ⟨rfl, H9.out.set2 _, grown_tr hg9 (grown_set _ _ _ _)⟩
set_option maxHeartbeats 8000000 in
theorem ack_few_true (g : Nat) (c s p m k n : Int) (w : World) (h : Bx w g c s p m k) (c0 : 0 ≤ c) (c1 : c ≤ 1073741824) (m0 : 0 ≤ m) (m1 : m ≤ 1500) (p0 : 0 ≤ p) (p1 : p ≤ c) (n0 : 0 ≤ n) (n1 : n ≤ 1073741824) (hcs : ¬ c ≤ s) (hpn : ¬ c ≤ p + n) :
    Calls Try.prog 30 #[.pointer (some ⟨g, 0, none⟩), .int .i64 n, .bool true] w (Chg w g (ackC c s p m k n true) s (ackP c s p m k n true) m k) := by
  have hu24 := Try.underlying24
  have hu49 := Try.underlying49
  have hw1 : IntKind.i64.wrap (p + n) = p + n := by rw [IntKind.wrap_i64]; omega
  have hw2 : IntKind.i64.wrap (p + n - c) = p + n - c := by rw [IntKind.wrap_i64]; omega
  have HH := Lib.hid h
  obtain ⟨⟨x0, x1, x2, x3, x4⟩, xf, xg⟩ := h.cells
  have f2 := xf 2
  clear h xf
  have hC : ackC c s p m k n true = c := by rw [ackC, if_neg hcs, if_neg hpn]
  have hP : ackP c s p m k n true = p + n := by rw [ackP, if_neg hcs, if_neg hpn]
  rw [hC, hP]
  clear hC hP
  · go_enter Try.func30, Try.ntmps30
    go_wp2_with fail
    go_quiet (fail)
    go_wp2_with fail
    refine name_world ?_
    intro w2 hw2
    have H2 := Lib.hid (show Bx w2 g c s (p + n) m k by subst hw2; first | exact HH.out.set2 _ | exact Bx.dN (HH.out.set2 _) _ | exact (Bx.dN HH.out _).set2 _)
    have hg2 : w.grownBy w2 (some g) := by subst hw2; first | exact grown_dN (grown_set _ _ _ _) _ | exact grown_tr (grown_below (below_drewN _ _ _)) (grown_set _ _ _ _)
    clear hw2 x0 x1 x2 x3 x4 xg f2
    obtain ⟨⟨x0, x1, x2, x3, x4⟩, xf, xg⟩ := H2.out.cells
    have f2 := xf 2
    clear xf
    go_quiet (fail)
    refine name_exit ?_
    intro w3 hw3
    have H3 := Lib.hid (show Bx w3 g c s (p + n) m k by subst hw3; exact H2.out)
    have hg3 : w.grownBy w3 (some g) := by subst hw3; exact grown_tr hg2 (grown_below (below_drewN _ _ _))
    clear hw3 x0 x1 x2 x3 x4 xg f2
    obtain ⟨⟨x0, x1, x2, x3, x4⟩, xf, xg⟩ := H3.out.cells
    have f2 := xf 2
    clear xf
    have hmm : mn (p + n) c = p + n := by rw [mn_def]; split <;> omega
    go_wp2_with fail
    go_still_tail 15, (by kernel_rfl)
    change wpList _ _ _ _ _ w3.drew
    generalize hw9 : w3.drew = w9
    have H9 := Lib.hid (show Bx w9 g c s (p + n) m k by subst hw9; exact H3.out)
    have hg9 : w.grownBy w9 (some g) := by subst hw9; exact grown_drew hg3
    clear hw9 x0 x1 x2 x3 x4 xg f2
    obtain ⟨⟨x0, x1, x2, x3, x4⟩, xf, xg⟩ := H9.out.cells
    have f2 := xf 2
    clear xf
    go_wp2
    go_end0
    exact ⟨rfl, H9.out.set2 _, grown_tr hg9 (grown_set _ _ _ _)⟩
set_option maxHeartbeats 8000000 in
theorem ack_few_false (g : Nat) (c s p m k n : Int) (w : World) (h : Bx w g c s p m k) (c0 : 0 ≤ c) (c1 : c ≤ 1073741824) (m0 : 0 ≤ m) (m1 : m ≤ 1500) (p0 : 0 ≤ p) (p1 : p ≤ c) (n0 : 0 ≤ n) (n1 : n ≤ 1073741824) (hcs : ¬ c ≤ s) (hpn : ¬ c ≤ p + n) :
    Calls Try.prog 30 #[.pointer (some ⟨g, 0, none⟩), .int .i64 n, .bool false] w (Chg w g (ackC c s p m k n false) s (ackP c s p m k n false) m k) := by
  have hu24 := Try.underlying24
  have hu49 := Try.underlying49
  have hw1 : IntKind.i64.wrap (p + n) = p + n := by rw [IntKind.wrap_i64]; omega
  have hw2 : IntKind.i64.wrap (p + n - c) = p + n - c := by rw [IntKind.wrap_i64]; omega
  have HH := Lib.hid h
  obtain ⟨⟨x0, x1, x2, x3, x4⟩, xf, xg⟩ := h.cells
  have f2 := xf 2
  clear h xf
  have hC : ackC c s p m k n false = c := by rw [ackC, if_neg hcs, if_neg hpn]
  have hP : ackP c s p m k n false = p + n := by rw [ackP, if_neg hcs, if_neg hpn]
  rw [hC, hP]
  clear hC hP
  · go_enter Try.func30, Try.ntmps30
    go_wp2_with fail
    go_quiet (fail)
    go_wp2_with fail
    refine name_world ?_
    intro w2 hw2
    have H2 := Lib.hid (show Bx w2 g c s (p + n) m k by subst hw2; first | exact HH.out.set2 _ | exact Bx.dN (HH.out.set2 _) _ | exact (Bx.dN HH.out _).set2 _)
    have hg2 : w.grownBy w2 (some g) := by subst hw2; first | exact grown_dN (grown_set _ _ _ _) _ | exact grown_tr (grown_below (below_drewN _ _ _)) (grown_set _ _ _ _)
    clear hw2 x0 x1 x2 x3 x4 xg f2
    obtain ⟨⟨x0, x1, x2, x3, x4⟩, xf, xg⟩ := H2.out.cells
    have f2 := xf 2
    clear xf
    go_quiet (fail)
    refine name_exit ?_
    intro w3 hw3
    have H3 := Lib.hid (show Bx w3 g c s (p + n) m k by subst hw3; exact H2.out)
    have hg3 : w.grownBy w3 (some g) := by subst hw3; exact grown_tr hg2 (grown_below (below_drewN _ _ _))
    clear hw3 x0 x1 x2 x3 x4 xg f2
    obtain ⟨⟨x0, x1, x2, x3, x4⟩, xf, xg⟩ := H3.out.cells
    have f2 := xf 2
    clear xf
    have hmm : mn (p + n) c = p + n := by rw [mn_def]; split <;> omega
    go_wp2_with fail
    go_still_tail 15, (by kernel_rfl)
    change wpList _ _ _ _ _ w3.drew
    generalize hw9 : w3.drew = w9
    have H9 := Lib.hid (show Bx w9 g c s (p + n) m k by subst hw9; exact H3.out)
    have hg9 : w.grownBy w9 (some g) := by subst hw9; exact grown_drew hg3
    clear hw9 x0 x1 x2 x3 x4 xg f2
    obtain ⟨⟨x0, x1, x2, x3, x4⟩, xf, xg⟩ := H9.out.cells
    have f2 := xf 2
    clear xf
    go_wp2
    go_end0
    exact ⟨rfl, H9.out.set2 _, grown_tr hg9 (grown_set _ _ _ _)⟩
