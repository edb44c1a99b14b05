/- Changes of a window in memory. -/
import Derived.Test.YtnmnoibkcnlbkaaC
import Derived.BigRegion
import Derived.Deep.AppendLies
namespace Go.Proofs.Ytnmnoibkcnlbkaa.C
open Go.RowKit
set_option linter.unusedVariables false
set_option linter.unusedSimpArgs false
attribute [local go_sem high] max2_mx min2_mn max_two min_two
attribute [local go_sem ↓] Go.wp_at_zero Go.wp_at_succ

set_option maxHeartbeats 2000000 in
theorem grow1 (g : Nat) (c s p m k n : Int) (b : Addr) (w : World) (h : Bx w g c s p m k) (hn : w.cell? b = some (.int .i64 n)) (c0 : 0 ≤ c) (c1 : c ≤ 1073741824) (n0 : 0 ≤ n) (n1 : n ≤ 1073741824) :
    Calls Try.prog 32 #[.pointer (some ⟨g, 0, none⟩), .pointer (some b)] w (Chg w g (mn k (c + n)) s p m k) := by
  have H := Lib.hid h
  clear h
  go_enter Try.func32, Try.ntmps32
  go_wp2_with (go_at_call 33; refine (grow _ _ _ _ _ _ _ _ H.out c0 c1 n0 n1).mono ?_; rintro e w' ⟨rfl, h1, h2⟩)
  go_end0
  exact ⟨rfl, h1, h2⟩
set_option maxHeartbeats 4000000 in
theorem fast1 (g : Nat) (c s p m k : Int) (w : World) (h : Bx w g c s p m k) (c0 : 0 ≤ c) (c1 : c ≤ 1073741824) (m0 : 0 ≤ m) (m1 : m ≤ 1500) :
    Calls Try.prog 35 #[.pointer (some ⟨g, 0, none⟩)] w (Chg w g (mn (mx (c / 2) (4 * m)) k) (mx (c / 2) (4 * m)) 0 m k) := by
  have hu24 := Try.underlying24
  have hu49 := Try.underlying49
  have H := Lib.hid h
  go_enter Try.func35, Try.ntmps35
  go_wp2_with fail
  refine (half _ _ _ _ _ _ _ H.out c0 c1 m0 m1).mono ?_
  rintro e w1 ⟨rfl, hb1⟩
  have H1 := Lib.hid (H.out.below hb1)
  obtain ⟨⟨x0, x1, x2, x3, x4⟩, xf, xg⟩ := H1.out.cells
  have f1 := xf 1
  clear h xf
  go_wp2_with fail
  refine name_world ?_
  intro w2 hw2
  have H2 := Lib.hid (show Bx w2 g c (mx (c / 2) (4 * m)) p m k by subst hw2; exact H1.out.set1 _)
  have hg2 : w.grownBy w2 (some g) := by subst hw2; exact grown_tr (grown_below hb1) (grown_set _ _ _ _)
  clear hw2 x0 x1 x2 x3 x4 xg f1 hb1 H1
  obtain ⟨⟨x0, x1, x2, x3, x4⟩, xf, xg⟩ := H2.out.cells
  have f0 := xf 0
  have f2 := xf 2
  clear xf
  go_region
  all_goals
    go_end0
    first
      | exact ⟨rfl, ((H2.out.set0 _).set2 _).drew, grown_tr hg2 (grown_drew (grown_tr (grown_set _ _ _ _) (grown_set _ _ _ _)))⟩
      | exact ⟨rfl, ((H2.out.set2 _).set0 _).drew, grown_tr hg2 (grown_drew (grown_tr (grown_set _ _ _ _) (grown_set _ _ _ _)))⟩
