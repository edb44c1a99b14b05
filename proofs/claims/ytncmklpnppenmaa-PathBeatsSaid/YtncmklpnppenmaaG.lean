/- The law PathBeats. -/
import Derived.Test.YtncmklpnppenmaaF
namespace Go.Proofs.Ytncmklpnppenmaa.C
open Go.RowKit
set_option linter.unusedVariables false
set_option linter.unusedSimpArgs false
attribute [local go_sem high] max2_mx min2_mn max_two min_two
attribute [local go_sem ↓] Go.wp_at_zero Go.wp_at_succ

theorem u16_range {n : Int} (h : (Lit.int .u16 n).wf = true) : 0 ≤ n ∧ n ≤ 65535 := by simpa [Lit.wf, IntKind.min, IntKind.max, IntKind.signed, IntKind.bits] using h
theorem nxt_small {q : Int} (h0 : 0 ≤ q) (h1 : q ≤ 1000) : nxt q = q + 1 := by unfold nxt; rw [IntKind.wrap_u32]; omega
set_option maxHeartbeats 8000000 in
set_option maxRecDepth 100000 in
theorem walk_PathBeats (M F Z x l r : Int) (w : World) (w0 : (Lit.int .i64 M).wf = true) (w1 : (Lit.int .i64 F).wf = true) (w2 : (Lit.int .i64 Z).wf = true) (w3 : (Lit.int .i64 x).wf = true) (w4 : (Lit.int .u16 l).wf = true) (w5 : (Lit.int .u8 r).wf = true) :
    Calls Try.prog 4 #[.agg #[.int .i64 M, .int .i64 F, .int .i64 Z], .int .i64 x, .int .u16 l, .int .u8 r] w fun e w' => e = .returned (.bool true) ∧ Below w.heap.size w w' := by
  have hu23 := Try.underlying23
  obtain ⟨l0, l1⟩ := u16_range w4
  obtain ⟨r0, r1⟩ := u8_range w5
  clear w0 w1 w2 w3 w4 w5
  cases hc : careB M F Z
  · go_enter Try.func4, Try.ntmps4
    go_wp2_with fail
    refine (new_c M F Z x _ hc).mono ?_
    rintro e w1 ⟨rfl, hb1⟩
    go_wp2_with fail
    refine (alive _).mono ?_
    rintro e w2 ⟨rfl, hb2⟩
    go_wp2
    go_ret
    exact ⟨rfl, (by repeat (first | with_reducible exact Below.refl _ _ | with_reducible assumption | with_reducible refine Below.drew ?_ | with_reducible refine below_dN ?_ _ | with_reducible refine Below.setCell ?_ (by first | omega | (simp; done) | (simp; omega)) _ | with_reducible refine below_al ?_ (by first | omega | (simp; done) | (simp; omega)) _ | exact Below.refl _ _ | assumption | refine Below.drew ?_ | refine below_dN ?_ _ | refine Below.setCell ?_ (by first | omega | (simp; done) | (simp; omega)) _ | refine below_al ?_ (by first | omega | (simp; done) | (simp; omega)) _ | refine below_tr (by assumption) ?_ (by first | omega | (simp; done) | (simp; omega)) | fail))⟩
  cases hx : inB x 0 1099511627776
  · go_enter Try.func4, Try.ntmps4
    go_wp2_with fail
    refine (new_x M F Z x _ hc hx).mono ?_
    rintro e w1 ⟨rfl, hb1⟩
    go_wp2_with fail
    refine (alive _).mono ?_
    rintro e w2 ⟨rfl, hb2⟩
    go_wp2
    go_ret
    exact ⟨rfl, (by repeat (first | with_reducible exact Below.refl _ _ | with_reducible assumption | with_reducible refine Below.drew ?_ | with_reducible refine below_dN ?_ _ | with_reducible refine Below.setCell ?_ (by first | omega | (simp; done) | (simp; omega)) _ | with_reducible refine below_al ?_ (by first | omega | (simp; done) | (simp; omega)) _ | exact Below.refl _ _ | assumption | refine Below.drew ?_ | refine below_dN ?_ _ | refine Below.setCell ?_ (by first | omega | (simp; done) | (simp; omega)) _ | refine below_al ?_ (by first | omega | (simp; done) | (simp; omega)) _ | refine below_tr (by assumption) ?_ (by first | omega | (simp; done) | (simp; omega)) | fail))⟩
  obtain ⟨N, rfl⟩ := Int.eq_ofNat_of_zero_le r0
  have HC := Lib.hid hc
  have HX := Lib.hid hx
  obtain ⟨x0, x1⟩ := inB_t hx
  clear hc hx
  go_enter Try.func4, Try.ntmps4
  go_wp2_with fail
  refine (new_t M F Z x _ HC.out HX.out).mono ?_
  rintro e w1 ⟨g, rfl, h1, hg, hb1⟩
  have hg' : w.heap.size < g := by simp at hg; omega
  have hB1 : Below w.heap.size w w1 := (by repeat (first | with_reducible exact Below.refl _ _ | with_reducible assumption | with_reducible refine Below.drew ?_ | with_reducible refine below_dN ?_ _ | with_reducible refine Below.setCell ?_ (by first | omega | (simp; done) | (simp; omega)) _ | with_reducible refine below_al ?_ (by first | omega | (simp; done) | (simp; omega)) _ | exact Below.refl _ _ | assumption | refine Below.drew ?_ | refine below_dN ?_ _ | refine Below.setCell ?_ (by first | omega | (simp; done) | (simp; omega)) _ | refine below_al ?_ (by first | omega | (simp; done) | (simp; omega)) _ | refine below_tr (by assumption) ?_ (by first | omega | (simp; done) | (simp; omega)) | fail))
  have HK0 := Lib.hid (ok_of HC.out HX.out (e := 0) (by omega) (by have := care_of HC.out; omega))
  have H1 := Lib.hid h1
  clear h1 hb1 hg
  go_wp2
  go_loopw [11, 12] (fun t i wr => ∃ (j : Nat) (b u tt : Int), j ≤ N + 1 ∧ i = .int .i64 j ∧ t = .int .i64 tt ∧ (0 ≤ tt ∧ tt ≤ 1099511627776) ∧ Hid (Pt wr g M F Z 0 false j b u ∧ Ok M F Z 0 j b u) ∧ Below w.heap.size w wr) (fun _ i _ => N + 1 - (intOf i).toNat)
  case atStart => exact ⟨0, 0, x, x, by omega, rfl, rfl, ⟨x0, x1⟩, Lib.hid ⟨H1.out, HK0.out⟩, hB1⟩
  case round =>
    obtain ⟨j, b, u, tt, hj, rfl, rfl, ⟨t0, t1⟩, hrel, hbr⟩ := hrel
    have HP := Lib.hid hrel.out.1
    have HK := Lib.hid hrel.out.2
    have hszr := hbr.size
    clear hrel
    by_cases hlt : j ≤ N
    · have htt : inB tt 0 1099511627776 = true := by unfold inB; simp; omega
      have hnx : nxt (j : Int) = (j : Int) + 1 := nxt_small (by omega) (by omega)
      have hbt := fun W hW => pbeat_t g M F Z 0 false j b u tt W hW htt rfl HK.out
      have hbo := fun W hW => pbeat_o g M F Z 0 true (nxt j) tt (mx u tt) tt W hW htt rfl
      rw [hnx] at hbt hbo
      have hmx : 0 ≤ mx u tt ∧ mx u tt ≤ 1099511627776 := by have k0 := HK.out.u0; have k1 := HK.out.u1; rw [mx_def]; split <;> omega
      have HK2 : Ok M F Z 0 ((j : Int) + 1) tt (mx u tt) := { HK.out with q0 := by omega, q1 := by omega, b0 := t0, b1 := t1, u0 := hmx.1, u1 := hmx.2 }
      have HK3 := Lib.hid HK2
      have HBT := Lib.hid hbt
      have HBO := Lib.hid hbo
      have HTT := Lib.hid htt
      have hw32 : IntKind.u32.wrap ((j : Int) + 1) = (j : Int) + 1 := by rw [IntKind.wrap_u32]; omega
      have hw33 : IntKind.u32.wrap ((j : Int) + 1 + 1) = (j : Int) + 1 + 1 := by rw [IntKind.wrap_u32]; omega
      clear hbt hbo hnx hmx HK2 htt
      go_wp2_with fail
      refine (HBT.out _ HP.out).mono ?_
      rintro e w2 ⟨rfl, h2, g2⟩
      have hB2 : Below w.heap.size w w2 := below_grown hbr hbr.size (by omega) g2
      have H2 := Lib.hid h2
      clear h2 g2
      go_wp2_with fail
      refine (HBO.out _ H2.out).mono ?_
      rintro e w3 ⟨rfl, h3, g3⟩
      have hB3 : Below w.heap.size w w3 := below_grown hB2 hB2.size (by omega) g3
      have H3 := Lib.hid h3
      clear h3 g3
      by_cases hfar : 1099511627776 - l < tt
      · go_wp2_with fail
        refine (alive _).mono ?_
        rintro e w4 ⟨rfl, hb4⟩
        go_wp2
        go_ret
        exact ⟨rfl, below_tr hb4 hB3 (Nat.le_refl _)⟩
      · have hts : inB (tt + l) 0 1099511627776 = true := by unfold inB; simp; omega
        have hq1 : (((j : Int) + 1) != ((j : Int) + 1 + 1)) = true := by rw [bne_iff_ne]; omega
        have hq2 : (((j : Int) + 1) != ((j : Int) + 1)) = false := by simp
        have hhq := fun W hW => pheard_q g M F Z 0 true ((j : Int) + 1) tt (mx u tt) ((j : Int) + 1 + 1) (tt + l) W hW hts rfl hq1
        have hht := fun W hW => pheard_t g M F Z 0 true ((j : Int) + 1) tt (mx u tt) ((j : Int) + 1) (tt + l) W hW hts rfl hq2 (by omega) HK3.out
        have hhn := fun W hW => pheard_n g M F Z 0 false ((j : Int) + 1) tt (mx u tt) ((j : Int) + 1) (tt + l) W hW hts rfl
        rw [show tt + l - tt = l from by omega] at hht
        have HHQ := Lib.hid hhq
        have HHT := Lib.hid hht
        have HHN := Lib.hid hhn
        clear hhq hht hhn hq1 hq2 hts
        go_wp2_with fail
        refine (HHQ.out _ H3.out).mono ?_
        rintro e w4 ⟨rfl, h4, g4⟩
        have hB4 : Below w.heap.size w w4 := below_grown hB3 hB3.size (by omega) g4
        have H4 := Lib.hid h4
        clear h4 g4
        go_wp2_with fail
        refine (HHT.out _ H4.out).mono ?_
        rintro e w5 ⟨rfl, h5, g5⟩
        have hB5 : Below w.heap.size w w5 := below_grown hB4 hB4.size (by omega) g5
        have H5 := Lib.hid h5
        clear h5 g5
        go_wp2_with fail
        refine (HHN.out _ H5.out).mono ?_
        rintro e w6 ⟨rfl, h6, g6⟩
        have hB6 : Below w.heap.size w w6 := below_grown hB5 hB5.size (by omega) g6
        have H6 := Lib.hid h6
        clear h6 g6
        go_wp2
        go_roundw
        case rel => exact ⟨j + 1, tt, mx u tt, tt + l, by omega, by go_num, rfl, ⟨by omega, by omega⟩, Lib.hid ⟨by simpa using H6.out, by simpa using HK3.out⟩, hB6⟩
        case measure => simp [intOf]; omega
    · go_wp2_with fail
      refine (alive _).mono ?_
      rintro e w4 ⟨rfl, hb4⟩
      go_wp2
      go_ret
      exact ⟨rfl, below_tr hb4 hbr (Nat.le_refl _)⟩
