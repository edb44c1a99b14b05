/- Changes of a window in memory: idle. -/
import Derived.Test.YtnmnoibkcnlbkaaE
import Derived.BigRegion
import Derived.Deep.RegionWith
namespace Go.Proofs.Ytnmnoibkcnlbkaa.C
open Go.RowKit
set_option linter.unusedVariables false
set_option linter.unusedSimpArgs false
attribute [local go_sem high] max2_mx min2_mn max_two min_two
attribute [local go_sem ↓] Go.wp_at_zero Go.wp_at_succ

set_option maxHeartbeats 4000000 in
theorem idle1 (g : Nat) (c s p m k : Int) (w : World) (h : Bx w g c s p m k) (c0 : 0 ≤ c) (c1 : c ≤ 1073741824) (m0 : 0 ≤ m) (m1 : m ≤ 1500) :
    Calls Try.prog 38 #[.pointer (some ⟨g, 0, none⟩)] w (Chg w g (mn c (mx (c / 2) (4 * m))) s 0 m k) := by
  have hu24 := Try.underlying24
  have hu49 := Try.underlying49
  have H := Lib.hid h
  obtain ⟨⟨x0, x1, x2, x3, x4⟩, xf, xg⟩ := h.cells
  have f0 := xf 0
  have f1 := xf 1
  have f2 := xf 2
  clear xf h
  go_enter Try.func38, Try.ntmps38
  go_wp2_with fail
  go_region_with (go_at_call 36; refine (half _ _ _ _ _ _ _ (by first | exact H.out | exact H.out.drew) c0 c1 m0 m1).mono ?_; rintro e w1 ⟨rfl, hb1⟩; have H1 := Lib.hid ((H.out.drew).below hb1); obtain ⟨⟨x10, x11, x12, x13, x14⟩, xf1, xg1⟩ := H1.out.cells; have f10 := xf1 0; have f11 := xf1 1; have f12 := xf1 2; clear xf1)
  all_goals
    have hbw : Below w.heap.size w w1 := by first | assumption | exact (by repeat (first | exact Below.refl _ _ | assumption | refine Below.drew ?_ | refine below_dN ?_ _ | refine Below.setCell ?_ (by first | omega | (simp; done) | (simp; omega)) _ | refine below_al ?_ (by first | omega | (simp; done) | (simp; omega)) _ | refine below_tr (by assumption) ?_ (by first | omega | (simp; done) | (simp; omega)))) | exact ((Below.refl _ _).drew).trans ‹_›
    go_end0
    refine ⟨rfl, ?_, ?_⟩
    · first | exact (H1.out.set0 _).set2 _ | exact ((H1.out.set0 _).set2 _).drew
    · first | exact grown_tr (grown_tr (grown_below hbw) (grown_set _ _ _ _)) (grown_set _ _ _ _) | exact grown_drew (grown_tr (grown_tr (grown_below hbw) (grown_set _ _ _ _)) (grown_set _ _ _ _))
