/- The law PathFails. -/
import Derived.Test.YtncmklpnppenmaaE
namespace Go.Proofs.Ytncmklpnppenmaa.C
open Go.RowKit
set_option linter.unusedVariables false
set_option linter.unusedSimpArgs false
attribute [local go_sem high] max2_mx min2_mn max_two min_two
attribute [local go_sem ↓] Go.wp_at_zero Go.wp_at_succ

theorem u8_range {n : Int} (h : (Lit.int .u8 n).wf = true) : 0 ≤ n ∧ n ≤ 255 := by simpa [Lit.wf, IntKind.min, IntKind.max, IntKind.signed, IntKind.bits] using h
theorem care_of {M F Z : Int} (h : careB M F Z = true) : (0 ≤ F ∧ F ≤ M) ∧ M ≤ 100 ∧ 1 ≤ Z ∧ Z ≤ 2147483648 := of_decide_eq_true h
/-- errors behind j of them -/
def errs (M : Int) (j : Nat) : Int := if (j : Int) ≤ M then j else M + 1
theorem errs_step (M : Int) (j : Nat) (h : 0 ≤ M) : failN M (errs M j) = errs M (j + 1) := by
  unfold failN errs
  (repeat' split) <;> omega
theorem errs_range (M : Int) (j : Nat) (h : 0 ≤ M) : 0 ≤ errs M j ∧ errs M j ≤ M + 1 := by unfold errs; split <;> omega
theorem ok_of {M F Z x e : Int} (hc : careB M F Z = true) (hx : inB x 0 1099511627776 = true) (e0 : 0 ≤ e) (e1 : e ≤ M + 1) : Ok M F Z e 0 0 x := by
  obtain ⟨⟨f0, f1⟩, m1, z0, z1⟩ := care_of hc
  obtain ⟨x0, x1⟩ := inB_t hx
  constructor <;> omega
set_option maxHeartbeats 4000000 in
set_option maxRecDepth 100000 in
theorem walk_PathFails (M F Z x n : Int) (w : World) (w0 : (Lit.int .i64 M).wf = true) (w1 : (Lit.int .i64 F).wf = true) (w2 : (Lit.int .i64 Z).wf = true) (w3 : (Lit.int .i64 x).wf = true) (w4 : (Lit.int .u8 n).wf = true) :
    Calls Try.prog 3 #[.agg #[.int .i64 M, .int .i64 F, .int .i64 Z], .int .i64 x, .int .u8 n] w fun e w' => e = .returned (.bool true) ∧ Below w.heap.size w w' := by
  have hu23 := Try.underlying23
  obtain ⟨n0, n1⟩ := u8_range w4
  clear w0 w1 w2 w3 w4
  cases hc : careB M F Z
  · go_enter Try.func3, Try.ntmps3
    go_wp2_with fail
    refine (new_c M F Z x _ hc).mono ?_
    rintro e w1 ⟨rfl, hb1⟩
    go_wp2_with fail
    refine (alive _).mono ?_
    rintro e w2 ⟨rfl, hb2⟩
    go_wp2
    go_ret
    exact ⟨rfl, (by repeat (first | with_reducible exact Below.refl _ _ | with_reducible assumption | with_reducible refine Below.drew ?_ | with_reducible refine below_dN ?_ _ | with_reducible refine Below.setCell ?_ (by first | omega | (simp; done) | (simp; omega)) _ | with_reducible refine below_al ?_ (by first | omega | (simp; done) | (simp; omega)) _ | exact Below.refl _ _ | assumption | refine Below.drew ?_ | refine below_dN ?_ _ | refine Below.setCell ?_ (by first | omega | (simp; done) | (simp; omega)) _ | refine below_al ?_ (by first | omega | (simp; done) | (simp; omega)) _ | refine below_tr (by assumption) ?_ (by first | omega | (simp; done) | (simp; omega)) | fail))⟩
  cases hx : inB x 0 1099511627776
  · go_enter Try.func3, Try.ntmps3
    go_wp2_with fail
    refine (new_x M F Z x _ hc hx).mono ?_
    rintro e w1 ⟨rfl, hb1⟩
    go_wp2_with fail
    refine (alive _).mono ?_
    rintro e w2 ⟨rfl, hb2⟩
    go_wp2
    go_ret
    exact ⟨rfl, (by repeat (first | with_reducible exact Below.refl _ _ | with_reducible assumption | with_reducible refine Below.drew ?_ | with_reducible refine below_dN ?_ _ | with_reducible refine Below.setCell ?_ (by first | omega | (simp; done) | (simp; omega)) _ | with_reducible refine below_al ?_ (by first | omega | (simp; done) | (simp; omega)) _ | exact Below.refl _ _ | assumption | refine Below.drew ?_ | refine below_dN ?_ _ | refine Below.setCell ?_ (by first | omega | (simp; done) | (simp; omega)) _ | refine below_al ?_ (by first | omega | (simp; done) | (simp; omega)) _ | refine below_tr (by assumption) ?_ (by first | omega | (simp; done) | (simp; omega)) | fail))⟩
  obtain ⟨N, rfl⟩ := Int.eq_ofNat_of_zero_le n0
  obtain ⟨⟨f0, f1⟩, m1, z0, z1⟩ := care_of hc
  have HC := Lib.hid hc
  have HX := Lib.hid hx
  clear hc hx
  go_enter Try.func3, Try.ntmps3
  go_wp2_with fail
  refine (new_t M F Z x _ HC.out HX.out).mono ?_
  rintro e w1 ⟨g, rfl, h1, hg, hb1⟩
  have hg' : w.heap.size < g := by simp at hg; omega
  have hB1 : Below w.heap.size w w1 := (by repeat (first | with_reducible exact Below.refl _ _ | with_reducible assumption | with_reducible refine Below.drew ?_ | with_reducible refine below_dN ?_ _ | with_reducible refine Below.setCell ?_ (by first | omega | (simp; done) | (simp; omega)) _ | with_reducible refine below_al ?_ (by first | omega | (simp; done) | (simp; omega)) _ | exact Below.refl _ _ | assumption | refine Below.drew ?_ | refine below_dN ?_ _ | refine Below.setCell ?_ (by first | omega | (simp; done) | (simp; omega)) _ | refine below_al ?_ (by first | omega | (simp; done) | (simp; omega)) _ | refine below_tr (by assumption) ?_ (by first | omega | (simp; done) | (simp; omega)) | fail))
  have hx1 := (hb1.block w.heap.size (by simp)).trans (heap_alloc_new w _)
  have H1 := Lib.hid h1
  have HX1 := Lib.hid hx1
  clear h1 hb1 hx1 hg
  go_wp2
  go_loopw [9] (fun i wr => ∃ j : Nat, j ≤ N ∧ i = .int .i64 j ∧ Hid (Pt wr g M F Z (errs M j) false 0 0 x ∧ wr.heap[w.heap.size]? = some (.cells #[.int .i64 M, .int .i64 F, .int .i64 Z] 23 (0, 0))) ∧ Below w.heap.size w wr) (fun i _ => N - (intOf i).toNat)
  case atStart => exact ⟨0, by omega, rfl, Lib.hid ⟨by unfold errs; rw [if_pos (by omega)]; exact H1.out, HX1.out⟩, hB1⟩
  case round =>
    obtain ⟨j, hj, rfl, hrel, hbr⟩ := hrel
    obtain ⟨er0, er1⟩ := errs_range M j (by omega)
    have HK := Lib.hid (ok_of HC.out HX.out er0 er1)
    have HP := Lib.hid hrel.out.1
    have HX2 := Lib.hid hrel.out.2
    have hszr := hbr.size
    clear hrel
    by_cases hlt : j < N
    · have HN := Lib.hid (errs_step M j (by omega))
      go_wp2_with fail
      refine (pfail g M F Z (errs M j) false 0 0 x _ HP.out HK.out).mono ?_
      rw [HN.out]
      rintro e w2 ⟨rfl, h2, g2⟩
      have hB2 : Below w.heap.size w w2 := below_grown hbr hbr.size (by omega) g2
      have hx2 := (g2.block w.heap.size (by have := (Array.getElem?_eq_some_iff.1 HX2.out).1; omega) (by simp; omega)).trans HX2.out
      have H2 := Lib.hid (And.intro h2 hx2)
      clear h2 hx2 g2
      go_wp2
      go_roundw
      case rel => exact ⟨j + 1, by omega, by go_num, H2, hB2⟩
      case measure => simp [intOf]; omega
    · obtain rfl : j = N := by omega
      have hs0 : stV M F 0 = 1 := by unfold stV; rw [if_neg (by omega), if_neg (by omega)]
      have HS0 := Lib.hid hs0
      have y0 := cell_of_row wr w.heap.size 0 _ 23 (0, 0) HX2.out
      have y1 := cell_of_row wr w.heap.size 1 _ 23 (0, 0) HX2.out
      clear hs0 hlt
      by_cases hA : M < (j : Int)
      · skip
        have hst : stV M F (errs M j) = 3 := by unfold stV errs; (repeat' split) <;> omega
        have hch : chB M F (errs M j) 0 = true := by unfold chB; rw [hst, HS0.out]; rfl
        have hps := fun W hW => pstate g M F Z (errs M j) false 0 0 x W hW
        rw [hst] at hps
        have hpg := fun W hW => pgood g M F Z (errs M j) false 0 0 x W hW HK.out
        rw [hch] at hpg
        have HPS := Lib.hid hps
        have HPG := Lib.hid hpg
        clear hst hch hps hpg
        go_wp2_with fail
        refine (HPS.out _ HP.out).mono ?_
        rintro e w2 ⟨rfl, hb2⟩
        have H2 := Lib.hid (HP.out.below hb2)
        have hB2 : Below w.heap.size w w2 := below_tr hb2 hbr (Nat.le_refl _)
        go_wp2_with fail
        refine (HPG.out _ H2.out).mono ?_
        rintro e w3 ⟨rfl, h3, g3⟩
        have hB3 : Below w.heap.size w w3 := below_grown hB2 hB2.size (by omega) g3
        have hps2 := fun W hW => pstate g M F Z 0 false 0 0 x W hW
        rw [HS0.out] at hps2
        have HPS2 := Lib.hid hps2
        have H3 := Lib.hid h3
        clear hps2 h3 g3 hb2
        go_wp2_with fail
        refine (HPS2.out _ H3.out).mono ?_
        rintro e w4 ⟨rfl, hb4⟩
        have H4 := Lib.hid (H3.out.below hb4)
        have hB4 : Below w.heap.size w w4 := below_tr hb4 hB3 (Nat.le_refl _)
        clear hb4
        go_wp2_with fail
        refine (perrors g M F Z 0 false 0 0 x _ H4.out).mono ?_
        rintro e w5 ⟨rfl, rfl⟩
        go_wp2_with fail
        refine (alive _).mono ?_
        rintro e w6 ⟨rfl, hb6⟩
        go_wp2
        go_ret
        exact ⟨rfl, below_tr hb6 hB4 (Nat.le_refl _)⟩
      by_cases hA : F < (j : Int)
      · skip
        have hst : stV M F (errs M j) = 2 := by unfold stV errs; (repeat' split) <;> omega
        have hch : chB M F (errs M j) 0 = true := by unfold chB; rw [hst, HS0.out]; rfl
        have hps := fun W hW => pstate g M F Z (errs M j) false 0 0 x W hW
        rw [hst] at hps
        have hpg := fun W hW => pgood g M F Z (errs M j) false 0 0 x W hW HK.out
        rw [hch] at hpg
        have HPS := Lib.hid hps
        have HPG := Lib.hid hpg
        clear hst hch hps hpg
        go_wp2_with fail
        refine (HPS.out _ HP.out).mono ?_
        rintro e w2 ⟨rfl, hb2⟩
        have H2 := Lib.hid (HP.out.below hb2)
        have hB2 : Below w.heap.size w w2 := below_tr hb2 hbr (Nat.le_refl _)
        go_wp2_with fail
        refine (HPG.out _ H2.out).mono ?_
        rintro e w3 ⟨rfl, h3, g3⟩
        have hB3 : Below w.heap.size w w3 := below_grown hB2 hB2.size (by omega) g3
        have hps2 := fun W hW => pstate g M F Z 0 false 0 0 x W hW
        rw [HS0.out] at hps2
        have HPS2 := Lib.hid hps2
        have H3 := Lib.hid h3
        clear hps2 h3 g3 hb2
        go_wp2_with fail
        refine (HPS2.out _ H3.out).mono ?_
        rintro e w4 ⟨rfl, hb4⟩
        have H4 := Lib.hid (H3.out.below hb4)
        have hB4 : Below w.heap.size w w4 := below_tr hb4 hB3 (Nat.le_refl _)
        clear hb4
        go_wp2_with fail
        refine (perrors g M F Z 0 false 0 0 x _ H4.out).mono ?_
        rintro e w5 ⟨rfl, rfl⟩
        go_wp2_with fail
        refine (alive _).mono ?_
        rintro e w6 ⟨rfl, hb6⟩
        go_wp2
        go_ret
        exact ⟨rfl, below_tr hb6 hB4 (Nat.le_refl _)⟩
      have hst : stV M F (errs M j) = 1 := by unfold stV errs; (repeat' split) <;> omega
      have hch : chB M F (errs M j) 0 = false := by unfold chB; rw [hst, HS0.out]; rfl
      have hps := fun W hW => pstate g M F Z (errs M j) false 0 0 x W hW
      rw [hst] at hps
      have hpg := fun W hW => pgood g M F Z (errs M j) false 0 0 x W hW HK.out
      rw [hch] at hpg
      have HPS := Lib.hid hps
      have HPG := Lib.hid hpg
      clear hst hch hps hpg
      go_wp2_with fail
      refine (HPS.out _ HP.out).mono ?_
      rintro e w2 ⟨rfl, hb2⟩
      have H2 := Lib.hid (HP.out.below hb2)
      have hB2 : Below w.heap.size w w2 := below_tr hb2 hbr (Nat.le_refl _)
      go_wp2_with fail
      refine (HPG.out _ H2.out).mono ?_
      rintro e w3 ⟨rfl, h3, g3⟩
      have hB3 : Below w.heap.size w w3 := below_grown hB2 hB2.size (by omega) g3
      have hps2 := fun W hW => pstate g M F Z 0 false 0 0 x W hW
      rw [HS0.out] at hps2
      have HPS2 := Lib.hid hps2
      have H3 := Lib.hid h3
      clear hps2 h3 g3 hb2
      go_wp2_with fail
      refine (HPS2.out _ H3.out).mono ?_
      rintro e w4 ⟨rfl, hb4⟩
      have H4 := Lib.hid (H3.out.below hb4)
      have hB4 : Below w.heap.size w w4 := below_tr hb4 hB3 (Nat.le_refl _)
      clear hb4
      go_wp2_with fail
      refine (perrors g M F Z 0 false 0 0 x _ H4.out).mono ?_
      rintro e w5 ⟨rfl, rfl⟩
      go_wp2_with fail
      refine (alive _).mono ?_
      rintro e w6 ⟨rfl, hb6⟩
      go_wp2
      go_ret
      exact ⟨rfl, below_tr hb6 hB4 (Nat.le_refl _)⟩
