/- The law PathRuns. -/
import Derived.Test.YtncmklpnppenmaaL
import Derived.Test.YtncmklpnppenmaaO
namespace Go.Proofs.Ytncmklpnppenmaa.C
open Go.RowKit
set_option linter.unusedVariables false
set_option linter.unusedSimpArgs false
attribute [local go_sem high] max2_mx min2_mn max_two min_two
attribute [local go_sem ↓] Go.wp_at_zero Go.wp_at_succ

set_option maxHeartbeats 8000000 in
set_option maxRecDepth 100000 in
theorem walk_PathRuns (M F Z x : Int) (a2 : Option Addr) (len2 cap2 : Nat) (zl : List OpenStruct.E48) (w : World) (w0 : (Lit.int .i64 M).wf = true) (w1 : (Lit.int .i64 F).wf = true) (w2 : (Lit.int .i64 Z).wf = true) (w3 : (Lit.int .i64 x).wf = true) (w4 : OpenStruct.Row48 w a2 len2 cap2 zl) :
    Calls Try.prog 5 #[.agg #[.int .i64 M, .int .i64 F, .int .i64 Z], .int .i64 x, .slice a2 len2 cap2] w fun e w' => e = .returned (.bool true) ∧ Below w.heap.size w w' := by
  have hu23 := Try.underlying23
  have hu48 := Try.underlying48
  obtain ⟨hzl, hlc, hmx, hnone, hsome, hat⟩ := w4
  have HAT := Lib.hid hat
  have HSOME := Lib.hid hsome
  clear w0 w1 w2 w3 hnone hlc hat hsome hzl
  cases hc : careB M F Z
  · go_enter Try.func5, Try.ntmps5
    go_wp2_with fail
    refine (new_c M F Z x _ hc).mono ?_
    rintro e w1 ⟨rfl, hb1⟩
    have hx1 := (hb1.block w.heap.size (by simp)).trans (heap_alloc_new w _)
    have y0 := cell_of_row w1 w.heap.size 0 _ 23 (0, 0) hx1
    have y1 := cell_of_row w1 w.heap.size 1 _ 23 (0, 0) hx1
    have y2 := cell_of_row w1 w.heap.size 2 _ 23 (0, 0) hx1
    clear hx1
    go_wp2_with fail
    refine (rnew_c M F Z x _ hc).mono ?_
    rintro e w2 ⟨rfl, hb2⟩
    go_wp2_with fail
    refine (alive _).mono ?_
    rintro e w3 ⟨rfl, hb3⟩
    go_wp2
    go_ret
    exact ⟨rfl, (by repeat (first | with_reducible exact Below.refl _ _ | with_reducible assumption | with_reducible refine Below.drew ?_ | with_reducible refine below_dN ?_ _ | with_reducible refine Below.setCell ?_ (by first | omega | (simp; done) | (simp; omega)) _ | with_reducible refine below_al ?_ (by first | omega | (simp; done) | (simp; omega)) _ | exact Below.refl _ _ | assumption | refine Below.drew ?_ | refine below_dN ?_ _ | refine Below.setCell ?_ (by first | omega | (simp; done) | (simp; omega)) _ | refine below_al ?_ (by first | omega | (simp; done) | (simp; omega)) _ | refine below_tr (by assumption) ?_ (by first | omega | (simp; done) | (simp; omega)) | fail))⟩
  cases hx : inB x 0 1099511627776
  · go_enter Try.func5, Try.ntmps5
    go_wp2_with fail
    refine (new_x M F Z x _ hc hx).mono ?_
    rintro e w1 ⟨rfl, hb1⟩
    have hx1 := (hb1.block w.heap.size (by simp)).trans (heap_alloc_new w _)
    have y0 := cell_of_row w1 w.heap.size 0 _ 23 (0, 0) hx1
    have y1 := cell_of_row w1 w.heap.size 1 _ 23 (0, 0) hx1
    have y2 := cell_of_row w1 w.heap.size 2 _ 23 (0, 0) hx1
    clear hx1
    go_wp2_with fail
    refine (rnew_x M F Z x _ hc hx).mono ?_
    rintro e w2 ⟨rfl, hb2⟩
    go_wp2_with fail
    refine (alive _).mono ?_
    rintro e w3 ⟨rfl, hb3⟩
    go_wp2
    go_ret
    exact ⟨rfl, (by repeat (first | with_reducible exact Below.refl _ _ | with_reducible assumption | with_reducible refine Below.drew ?_ | with_reducible refine below_dN ?_ _ | with_reducible refine Below.setCell ?_ (by first | omega | (simp; done) | (simp; omega)) _ | with_reducible refine below_al ?_ (by first | omega | (simp; done) | (simp; omega)) _ | exact Below.refl _ _ | assumption | refine Below.drew ?_ | refine below_dN ?_ _ | refine Below.setCell ?_ (by first | omega | (simp; done) | (simp; omega)) _ | refine below_al ?_ (by first | omega | (simp; done) | (simp; omega)) _ | refine below_tr (by assumption) ?_ (by first | omega | (simp; done) | (simp; omega)) | fail))⟩
  have HC := Lib.hid hc
  have HX := Lib.hid hx
  clear hc hx
  go_enter Try.func5, Try.ntmps5
  go_wp2_with fail
  refine (new_t M F Z x _ HC.out HX.out).mono ?_
  rintro e w1 ⟨g, rfl, h1, hg, hb1⟩
  have hg' : w.heap.size < g := by simp at hg; omega
  have hB1 : Below w.heap.size w w1 := (by repeat (first | with_reducible exact Below.refl _ _ | with_reducible assumption | with_reducible refine Below.drew ?_ | with_reducible refine below_dN ?_ _ | with_reducible refine Below.setCell ?_ (by first | omega | (simp; done) | (simp; omega)) _ | with_reducible refine below_al ?_ (by first | omega | (simp; done) | (simp; omega)) _ | exact Below.refl _ _ | assumption | refine Below.drew ?_ | refine below_dN ?_ _ | refine Below.setCell ?_ (by first | omega | (simp; done) | (simp; omega)) _ | refine below_al ?_ (by first | omega | (simp; done) | (simp; omega)) _ | refine below_tr (by assumption) ?_ (by first | omega | (simp; done) | (simp; omega)) | fail))
  have hx1 := (hb1.block w.heap.size (by simp)).trans (heap_alloc_new w _)
  have y0 := cell_of_row w1 w.heap.size 0 _ 23 (0, 0) hx1
  have y1 := cell_of_row w1 w.heap.size 1 _ 23 (0, 0) hx1
  have y2 := cell_of_row w1 w.heap.size 2 _ 23 (0, 0) hx1
  have hg1 := h1.cells.lt
  have H1 := Lib.hid h1
  have HK0 := Lib.hid (ok_of HC.out HX.out (e := 0) (by omega) (by have := care_of HC.out; omega))
  clear h1 hb1 hx1 hg
  go_wp2_with fail
  refine (rnew_t M F Z x _ HC.out HX.out).mono ?_
  rintro e w2 ⟨h, rfl, h2, hh, hb2⟩
  have hgh : g ≠ h := by omega
  have hB2 : Below w.heap.size w w2 := below_tr hb2 hB1 (Nat.le_refl _)
  have hh' : w.heap.size ≤ h := by have := hB1.size; omega
  have HP2 := Lib.hid (H1.out.below hb2)
  have HR2 := Lib.hid h2
  clear h2 hb2 y0 y1 y2 hg1 hh
  go_wp2
  go_loopw [11] (fun i wr => ∃ (j : Nat) (n : Int) (o : Bool) (q b u : Int), j ≤ len2 ∧ i = .int .i64 j ∧ Hid (Pt wr g M F Z n o q b u ∧ Rt wr h M F Z n o q b u ∧ Ok M F Z n q b u) ∧ Below w.heap.size w wr) (fun i _ => len2 - (intOf i).toNat)
  case atStart => exact ⟨0, 0, false, 0, 0, x, by omega, rfl, Lib.hid ⟨HP2.out, HR2.out, HK0.out⟩, hB2⟩
  case round =>
    obtain ⟨j, n, o, q, b, u, hj, rfl, hrel, hbr⟩ := hrel
    have HP := Lib.hid hrel.out.1
    have HR := Lib.hid hrel.out.2.1
    have HK := Lib.hid hrel.out.2.2
    clear hrel
    by_cases hlt : j < len2 ∧ j < 1000
    · obtain ⟨hl1, hl2⟩ := hlt
      obtain ⟨ad, rfl⟩ := HSOME.out (by omega)
      obtain ⟨e0, e1, e2, _, _, _⟩ := HAT.out ad rfl j hl1
      generalize OpenStruct.E48.f0 (zl.getD j OpenStruct.d48) = kd at e0
      generalize OpenStruct.E48.f1 (zl.getD j OpenStruct.d48) = N at e1
      generalize OpenStruct.E48.f2 (zl.getD j OpenStruct.d48) = y at e2
      have e0' : wr.cell? (ad.add (j * 3)) = some (.int .i64 kd) := (hbr.cell (World.block_lt_of_cell? w _ e0)).trans e0
      have e1' : wr.cell? ⟨(ad.add (j * 3)).block, (ad.add (j * 3)).off + 1, none⟩ = some (.int .i64 N) := (hbr.cell (World.block_lt_of_cell? w _ e1)).trans e1
      have e2' : wr.cell? ⟨(ad.add (j * 3)).block, (ad.add (j * 3)).off + 2, none⟩ = some (.int .u32 y) := (hbr.cell (World.block_lt_of_cell? w _ e2)).trans e2
      have hj0 : (0 : Int) ≤ (j : Int) := by omega
      have hj1 : (j : Int) < (len2 : Int) := by omega
      clear e0 e1 e2
      go_wp2_with fail
      refine (act w.heap.size g h M F Z n o q b u kd N y w _ HP.out HR.out HK.out hgh hbr (Nat.le_refl _) (by omega) hh').mono ?_
      rintro e w3 ⟨n', o', q', b', u', rfl, p3, r3, k3, hB3⟩
      have HP3 := Lib.hid p3
      have HR3 := Lib.hid r3
      have HK3 := Lib.hid k3
      clear p3 r3 k3 e0' e1' e2'
      go_wp2_with fail
      refine (same g h M F Z n' o' q' b' u' _ HP3.out HR3.out).mono ?_
      rintro e w4 ⟨rfl, hb4⟩
      have HB := Lib.hid (And.intro (HP3.out.below hb4) (And.intro (HR3.out.below hb4) HK3.out))
      have hB4 : Below w.heap.size w w4 := below_tr hb4 hB3 (Nat.le_refl _)
      clear hb4
      go_wp2
      go_roundw
      case rel => exact ⟨j + 1, n', o', q', b', u', by omega, by go_num, HB, hB4⟩
      case measure => simp [intOf]; omega
    · by_cases hl1 : j < len2
      · have hl2 : ¬ j < 1000 := fun h => hlt ⟨hl1, h⟩
        clear hlt
        go_wp2_with fail
        refine (same g h M F Z n o q b u _ HP.out HR.out).mono ?_
        rintro e w4 ⟨rfl, hb4⟩
        have hB4 : Below w.heap.size w w4 := below_tr hb4 hbr (Nat.le_refl _)
        clear hb4
        go_wp2_with fail
        refine (alive _).mono ?_
        rintro e w5 ⟨rfl, hb5⟩
        go_wp2
        go_ret
        exact ⟨rfl, below_tr hb5 hB4 (Nat.le_refl _)⟩
      · clear hlt
        go_wp2_with fail
        refine (same g h M F Z n o q b u _ HP.out HR.out).mono ?_
        rintro e w4 ⟨rfl, hb4⟩
        have hB4 : Below w.heap.size w w4 := below_tr hb4 hbr (Nat.le_refl _)
        clear hb4
        go_wp2_with fail
        refine (alive _).mono ?_
        rintro e w5 ⟨rfl, hb5⟩
        go_wp2
        go_ret
        exact ⟨rfl, below_tr hb5 hB4 (Nat.le_refl _)⟩
