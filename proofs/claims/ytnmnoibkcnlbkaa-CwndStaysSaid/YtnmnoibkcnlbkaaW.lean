/- The law CwndStays. -/
import Derived.Test.YtnmnoibkcnlbkaaV
import Derived.Test.YtnmnoibkcnlbkaaT
import Derived.Test.YtnmnoibkcnlbkaaO
namespace Go.Proofs.Ytnmnoibkcnlbkaa.C
open Go.RowKit
set_option linter.unusedVariables false
set_option linter.unusedSimpArgs false
attribute [local go_sem high] max2_mx min2_mn max_two min_two
attribute [local go_sem ↓] Go.wp_at_zero Go.wp_at_succ

theorem MayB_mk {c s p m k : Int} (q0 : 100 ≤ m) (q1 : m ≤ 1500) (q2 : 4 * m ≤ k) (q3 : k ≤ 1073741824) (q4 : m ≤ c) (q5 : c ≤ k) (q6 : 4 * m ≤ s) (q7 : s ≤ 1073741824) (q8 : 0 ≤ p) (q9 : p ≤ c) : MayB c s p m k = true := by
  unfold MayB inB; simp; omega
theorem may_ack {c s p m k n : Int} (full moved : Bool) (h : MayB c s p m k = true) (n0 : 0 ≤ n) (n1 : n ≤ 1073741824) :
    MayB (if moved = true then ackC c s p m k n full else c) s (if moved = true then ackP c s p m k n full else p) m k = true ∧ c ≤ (if moved = true then ackC c s p m k n full else c) ∧ (if moved = true then ackC c s p m k n full else c) ≤ c + m := by
  obtain ⟨q0, q1, q2, q3, q4, q5, q6, q7, q8, q9⟩ := MayB_t h
  cases moved
  · exact ⟨by simpa using h, by simp, by simp; omega⟩
  · simp only [if_true]
    have hr : c ≤ ackC c s p m k n full ∧ ackC c s p m k n full ≤ c + m ∧ ackC c s p m k n full ≤ k := by
      unfold ackC
      simp only [mn_def]
      (repeat' split) <;> omega
    have hp : 0 ≤ ackP c s p m k n full ∧ ackP c s p m k n full ≤ ackC c s p m k n full := by
      unfold ackP ackC
      simp only [mn_def]
      (repeat' split) <;> omega
    exact ⟨MayB_mk q0 q1 q2 q3 (by omega) (by omega) q6 q7 (by omega) (by omega), hr.1, hr.2.1⟩
theorem may_grow {c s p m k n : Int} (h : MayB c s p m k = true) (n0 : 0 ≤ n) : MayB (mn k (c + n)) s p m k = true := by
  obtain ⟨q0, q1, q2, q3, q4, q5, q6, q7, q8, q9⟩ := MayB_t h
  have hr : c ≤ mn k (c + n) ∧ mn k (c + n) ≤ k := by rw [mn_def]; split <;> omega
  exact MayB_mk q0 q1 q2 q3 (by omega) (by omega) q6 q7 (by omega) (by omega)
theorem may_half {c s p m k : Int} (h : MayB c s p m k = true) : 4 * m ≤ mx (c / 2) (4 * m) ∧ mx (c / 2) (4 * m) ≤ mx c (4 * m) ∧ mx (c / 2) (4 * m) ≤ 1073741824 := by
  obtain ⟨q0, q1, q2, q3, q4, q5, q6, q7, q8, q9⟩ := MayB_t h
  simp only [mx_def]
  (repeat' split) <;> omega
theorem may_fast {c s p m k : Int} (h : MayB c s p m k = true) : MayB (mn (mx (c / 2) (4 * m)) k) (mx (c / 2) (4 * m)) 0 m k = true ∧ mn (mx (c / 2) (4 * m)) k ≤ mx c (4 * m) := by
  obtain ⟨q0, q1, q2, q3, q4, q5, q6, q7, q8, q9⟩ := MayB_t h
  obtain ⟨h1, h2, h3⟩ := may_half h
  have hr : 4 * m ≤ mn (mx (c / 2) (4 * m)) k ∧ mn (mx (c / 2) (4 * m)) k ≤ k ∧ mn (mx (c / 2) (4 * m)) k ≤ mx (c / 2) (4 * m) := by rw [mn_def]; split <;> omega
  exact ⟨MayB_mk q0 q1 q2 q3 (by omega) (by omega) h1 h3 (by omega) (by omega), by omega⟩
theorem may_timeout {c s p m k : Int} (h : MayB c s p m k = true) : MayB m (mx (c / 2) (4 * m)) 0 m k = true := by
  obtain ⟨q0, q1, q2, q3, q4, q5, q6, q7, q8, q9⟩ := MayB_t h
  obtain ⟨h1, h2, h3⟩ := may_half h
  exact MayB_mk q0 q1 q2 q3 (by omega) (by omega) h1 h3 (by omega) (by omega)
theorem may_idle {c s p m k : Int} (h : MayB c s p m k = true) : MayB (mn c (mx (c / 2) (4 * m))) s 0 m k = true ∧ mn c (mx (c / 2) (4 * m)) ≤ c := by
  obtain ⟨q0, q1, q2, q3, q4, q5, q6, q7, q8, q9⟩ := MayB_t h
  obtain ⟨h1, h2, h3⟩ := may_half h
  have hr : m ≤ mn c (mx (c / 2) (4 * m)) ∧ mn c (mx (c / 2) (4 * m)) ≤ c := by rw [mn_def]; split <;> omega
  exact ⟨MayB_mk q0 q1 q2 q3 (by omega) (by omega) q6 q7 (by omega) (by omega), hr.2⟩
theorem name_world2 {P : Program} {f : Nat} {args : Array Value} {Q : Ending → World → Prop} {w : World} (h : ∀ W, W = w → Calls P f args W Q) : Calls P f args w Q := h w rfl
theorem Bt.far {w : World} {g h : Nat} {c s p m k : Int} (hb : Bt w g c s p m k) (ne : h ≠ g) (j : Nat) (v : Value) : Bt (w.setCell ⟨h, j, none⟩ v) g c s p m k := by
  unfold Bt; rw [heap_setCell_other w ⟨h, j, none⟩ g v (fun e => ne e.symm)]; exact hb
/-- a turn of the loop: what holds at its head -/
def Hd (wr : World) (B : Nat) (c s p m k : Int) : Prop := Bt wr B c s p m k ∧ MayB c s p m k = true

set_option maxHeartbeats 16000000 in
set_option maxRecDepth 100000 in
theorem walk_CwndStays (c0 s0 p0 m k : Int) (a1 : Option Addr) (len1 cap1 : Nat) (zl : List OpenStruct.E39) (w : World) (w0 : (Lit.int .i64 c0).wf = true) (w1 : (Lit.int .i64 s0).wf = true) (w2 : (Lit.int .i64 p0).wf = true) (w3 : (Lit.int .i64 m).wf = true) (w4 : (Lit.int .i64 k).wf = true) (w5 : OpenStruct.Row39 w a1 len1 cap1 zl) :
    Calls Try.prog 7 #[.agg #[.int .i64 c0, .int .i64 s0, .int .i64 p0, .int .i64 m, .int .i64 k], .slice a1 len1 cap1] w fun e w' => e = .returned (.bool true) ∧ Below w.heap.size w w' := by
  obtain ⟨hzl, hlc, hmx, hnone, hsome, hat⟩ := w5
  clear w0 w1 w2 w3 w4 hnone hlc
  have HAT := Lib.hid hat
  have HSOME := Lib.hid hsome
  clear hat hsome hzl
  have hu24 := Try.underlying24
  cases hm : MayB c0 s0 p0 m k
  · go_enter Try.func7, Try.ntmps7
    go_wp2_with fail
    refine (awake _).mono ?_
    rintro e w1 ⟨rfl, hb1⟩
    obtain ⟨hc1, hf1⟩ := bcell hb1
    have z1 : w.heap.size < w1.heap.size := by have := hb1.size; simp at this; omega
    have hB1 : Below w.heap.size w w1 := (by repeat (first | with_reducible exact Below.refl _ _ | with_reducible assumption | with_reducible refine Below.drew ?_ | with_reducible refine below_dN ?_ _ | with_reducible refine Below.setCell ?_ (by first | omega | (simp; done) | (simp; omega)) _ | with_reducible refine below_al ?_ (by first | omega | (simp; done) | (simp; omega)) _ | exact Below.refl _ _ | assumption | refine Below.drew ?_ | refine below_dN ?_ _ | refine Below.setCell ?_ (by first | omega | (simp; done) | (simp; omega)) _ | refine below_al ?_ (by first | omega | (simp; done) | (simp; omega)) _ | refine below_tr (by assumption) ?_ (by first | omega | (simp; done) | (simp; omega)) | fail))
    go_wp2_with fail
    refine (rmay _ _ _ _ _ _).mono ?_
    rw [hm]
    rintro e w2 ⟨rfl, hb2⟩
    obtain ⟨hc2, hf2⟩ := bcell hb2
    have z2 : w.heap.size < w2.heap.size := by have := hb2.size; omega
    have hB2 : Below w.heap.size w w2 := below_tr hb2 hB1 (Nat.le_refl _)
    go_wp2_with fail
    refine (check_f _ _ _ _ _ _ hm).mono ?_
    rintro e w3 ⟨rfl, hb3⟩
    go_wp2
    go_ret
    exact ⟨rfl, below_tr hb3 hB2 (Nat.le_refl _)⟩
  · obtain ⟨q0, q1, q2, q3, _, _, _, _, _, _⟩ := MayB_t hm
    go_enter Try.func7, Try.ntmps7
    go_wp2_with fail
    refine (awake _).mono ?_
    rintro e w1 ⟨rfl, hb1⟩
    have hbt1 : Bt w1 w.heap.size c0 s0 p0 m k := (hb1.block w.heap.size (by simp)).trans (heap_alloc_new w _)
    have hB1 : Below w.heap.size w w1 := (by repeat (first | with_reducible exact Below.refl _ _ | with_reducible assumption | with_reducible refine Below.drew ?_ | with_reducible refine below_dN ?_ _ | with_reducible refine Below.setCell ?_ (by first | omega | (simp; done) | (simp; omega)) _ | with_reducible refine below_al ?_ (by first | omega | (simp; done) | (simp; omega)) _ | exact Below.refl _ _ | assumption | refine Below.drew ?_ | refine below_dN ?_ _ | refine Below.setCell ?_ (by first | omega | (simp; done) | (simp; omega)) _ | refine below_al ?_ (by first | omega | (simp; done) | (simp; omega)) _ | refine below_tr (by assumption) ?_ (by first | omega | (simp; done) | (simp; omega)) | fail))
    have z1 := hbt1.lt
    obtain ⟨⟨y0, y1, y2, y3, y4⟩, yf⟩ := five hbt1
    clear yf hb1
    have H1 := Lib.hid hbt1
    clear hbt1
    go_wp2_with fail
    refine (rmay _ _ _ _ _ _).mono ?_
    rw [hm]
    rintro e w2 ⟨rfl, hb2⟩
    have hbt2 := H1.out.below hb2
    have hB2 : Below w.heap.size w w2 := below_tr hb2 hB1 (Nat.le_refl _)
    clear y0 y1 y2 y3 y4 hb2
    have H2 := Lib.hid (show Hd w2 w.heap.size c0 s0 p0 m k from ⟨hbt2, hm⟩)
    clear hbt2 hm
    go_wp2
    go_loopw [5] (fun i wr => ∃ (j : Nat) (c s p : Int), j ≤ len1 ∧ i = .int .i64 j ∧ Hid (Hd wr w.heap.size c s p m k) ∧ Below w.heap.size w wr) (fun i _ => len1 - (intOf i).toNat)
    case atStart => exact ⟨0, c0, s0, p0, by omega, rfl, H2, hB2⟩
    case round =>
      obtain ⟨j, c, s, p, hj, rfl, hhd, hbr⟩ := hrel
      have HBT := Lib.hid hhd.out.1
      have HM := Lib.hid hhd.out.2
      clear hhd
      obtain ⟨_, _, _, _, q4, q5, q6, q7, q8, q9⟩ := MayB_t HM.out
      by_cases hlt : j < len1
      · obtain ⟨ad, rfl⟩ := HSOME.out (by omega)
        obtain ⟨e0, e1, e2, e3, g0, g1⟩ := HAT.out ad rfl j hlt
        generalize OpenStruct.E39.f0 (zl.getD j OpenStruct.d39) = kd at e0 g0
        generalize OpenStruct.E39.f1 (zl.getD j OpenStruct.d39) = n at e1 g1
        generalize OpenStruct.E39.f2 (zl.getD j OpenStruct.d39) = full at e2
        generalize OpenStruct.E39.f3 (zl.getD j OpenStruct.d39) = moved at e3
        have e0' : wr.cell? (ad.add (j * 4)) = some (.int .i64 kd) := (hbr.cell (World.block_lt_of_cell? w _ e0)).trans e0
        have e1' : wr.cell? ⟨(ad.add (j * 4)).block, (ad.add (j * 4)).off + 1, none⟩ = some (.int .i64 n) := (hbr.cell (World.block_lt_of_cell? w _ e1)).trans e1
        have e2' : wr.cell? ⟨(ad.add (j * 4)).block, (ad.add (j * 4)).off + 2, none⟩ = some (.bool full) := (hbr.cell (World.block_lt_of_cell? w _ e2)).trans e2
        have e3' : wr.cell? ⟨(ad.add (j * 4)).block, (ad.add (j * 4)).off + 3, none⟩ = some (.bool moved) := (hbr.cell (World.block_lt_of_cell? w _ e3)).trans e3
        have hk3' := World.block_lt_of_cell? wr _ e0'
        have hk3 : ad.block < wr.heap.size := by have := hk3'; rwa [block_add] at this
        have hj0 : (0 : Int) ≤ (j : Int) := by omega
        have hj1 : (j : Int) < (len1 : Int) := by omega
        have hg := HBT.out.lt
        obtain ⟨⟨y0, y1, y2, y3, y4⟩, yf⟩ := five HBT.out
        clear yf e0 e1 e2 e3 g0 g1 hlt
        by_cases hn0 : n < 0
        · go_wp2
          go_roundw
          case rel => exact ⟨j + 1, c, s, p, by omega, by go_num, Lib.hid ⟨HBT.out, HM.out⟩, (by repeat (first | with_reducible exact Below.refl _ _ | with_reducible assumption | with_reducible refine Below.drew ?_ | with_reducible refine below_dN ?_ _ | with_reducible refine Below.setCell ?_ (by first | omega | (simp; done) | (simp; omega)) _ | with_reducible refine below_al ?_ (by first | omega | (simp; done) | (simp; omega)) _ | exact Below.refl _ _ | assumption | refine Below.drew ?_ | refine below_dN ?_ _ | refine Below.setCell ?_ (by first | omega | (simp; done) | (simp; omega)) _ | refine below_al ?_ (by first | omega | (simp; done) | (simp; omega)) _ | refine below_tr (by assumption) ?_ (by first | omega | (simp; done) | (simp; omega)) | fail))⟩
          case measure => simp [intOf]; omega
        by_cases hn1 : 1073741824 < n
        · go_wp2
          go_roundw
          case rel => exact ⟨j + 1, c, s, p, by omega, by go_num, Lib.hid ⟨HBT.out, HM.out⟩, (by repeat (first | with_reducible exact Below.refl _ _ | with_reducible assumption | with_reducible refine Below.drew ?_ | with_reducible refine below_dN ?_ _ | with_reducible refine Below.setCell ?_ (by first | omega | (simp; done) | (simp; omega)) _ | with_reducible refine below_al ?_ (by first | omega | (simp; done) | (simp; omega)) _ | exact Below.refl _ _ | assumption | refine Below.drew ?_ | refine below_dN ?_ _ | refine Below.setCell ?_ (by first | omega | (simp; done) | (simp; omega)) _ | refine below_al ?_ (by first | omega | (simp; done) | (simp; omega)) _ | refine below_tr (by assumption) ?_ (by first | omega | (simp; done) | (simp; omega)) | fail))⟩
          case measure => simp [intOf]; omega
        have hn2 : 0 ≤ n := by omega
        have hn3 : n ≤ 1073741824 := by omega
        have hinn : inB n 0 1073741824 = true := by unfold inB; simp; omega
        have HIN := Lib.hid hinn
        clear hn0 hn1 hinn
        by_cases hk1 : kd = 1
        · subst hk1
          have HMM := Lib.hid (may_grow HM.out hn2)
          go_wp2_with fail
          refine (pgrow_t c s p m k n _ HM.out HIN.out).mono ?_
          rintro e w4 ⟨rfl, hb4⟩
          have hX4 : Bt w4 wr.heap.size c s p m k := (hb4.block wr.heap.size (by first | omega | (simp; done) | (simp; omega))).trans (al_new wr _ _ rfl)
          have hY4 : Bt w4 w.heap.size c s p m k := (hb4.block w.heap.size (by first | omega | (simp; done) | (simp; omega))).trans ((al_old wr _ _ hg).trans HBT.out)
          have hB4 : Below w.heap.size w w4 := below_tr hb4 (below_al hbr (Nat.le_refl _) _) (Nat.le_refl _)
          have HX4 := Lib.hid hX4
          have HY4 := Lib.hid hY4
          clear hX4 hY4 hb4 y0 y1 y2 y3 y4
          obtain ⟨⟨x0, x1, x2, x3, x4⟩, xf⟩ := five HX4.out
          have hgx := HX4.out.lt
          have xf0 := xf 0
          have xf1 := xf 1
          have xf2 := xf 2
          have xf3 := xf 3
          have xf4 := xf 4
          have hgb := HY4.out.lt
          obtain ⟨⟨y0, y1, y2, y3, y4⟩, yf⟩ := five HY4.out
          clear xf yf
          go_wp2_with fail
          refine name_world2 ?_
          intro w5 hw5
          have HX5 := Lib.hid (show Bt w5 wr.heap.size (mn k (c + n)) (s) (p) m k by subst hw5; exact Bt.set5 HX4.out _ _ _ _ _)
          have HB5 := Lib.hid (show Bt w5 w.heap.size c s p m k by subst hw5; exact ((((HY4.out.far (by omega) _ _).far (by omega) _ _).far (by omega) _ _).far (by omega) _ _).far (by omega) _ _)
          have hB5 : Below w.heap.size w w5 := by subst hw5; exact (by (repeat (refine Below.setCell ?_ (by first | omega | (simp; done) | (simp; omega)) _)); exact hB4)
          clear hw5 x0 x1 x2 x3 x4 xf0 xf1 xf2 xf3 xf4 y0 y1 y2 y3 y4 hgx hgb
          obtain ⟨⟨x0, x1, x2, x3, x4⟩, xf⟩ := five HX5.out
          have hgx := HX5.out.lt
          have hgb := HB5.out.lt
          obtain ⟨⟨y0, y1, y2, y3, y4⟩, yf⟩ := five HB5.out
          clear xf yf
          refine (rmay _ _ _ _ _ _).mono ?_
          rw [HMM.out]
          rintro e w6 ⟨rfl, hb6⟩
          have HX6 := Lib.hid (HX5.out.below hb6)
          have HB6 := Lib.hid (HB5.out.below hb6)
          have hB6 : Below w.heap.size w w6 := below_tr hb6 hB5 (Nat.le_refl _)
          clear x0 x1 x2 x3 x4 y0 y1 y2 y3 y4 hgx hgb hb6
          obtain ⟨⟨x0, x1, x2, x3, x4⟩, xf⟩ := five HX6.out
          have hgx := HX6.out.lt
          have hgb := HB6.out.lt
          obtain ⟨⟨y0, y1, y2, y3, y4⟩, yf⟩ := five HB6.out
          have yf0 := yf 0
          have yf1 := yf 1
          have yf2 := yf 2
          have yf3 := yf 3
          have yf4 := yf 4
          clear xf yf
          go_wp2
          go_roundw
          case rel => exact ⟨j + 1, _, _, _, by omega, by go_num, Lib.hid ⟨Bt.set5 HB6.out _ _ _ _ _, HMM.out⟩, by (repeat (refine Below.setCell ?_ (by first | omega | (simp; done) | (simp; omega)) _)); exact hB6⟩
          case measure => simp [intOf]; omega
        have hb1 : (kd == 1) = false := by simpa using hk1
        by_cases hk2 : kd = 2
        · subst hk2
          have HMM := Lib.hid (may_fast HM.out).1
          have hle := (may_fast HM.out).2
          go_wp2_with fail
          refine (pfast_t c s p m k _ HM.out).mono ?_
          rintro e w4 ⟨rfl, hb4⟩
          have hX4 : Bt w4 wr.heap.size c s p m k := (hb4.block wr.heap.size (by first | omega | (simp; done) | (simp; omega))).trans (al_new wr _ _ rfl)
          have hY4 : Bt w4 w.heap.size c s p m k := (hb4.block w.heap.size (by first | omega | (simp; done) | (simp; omega))).trans ((al_old wr _ _ hg).trans HBT.out)
          have hB4 : Below w.heap.size w w4 := below_tr hb4 (below_al hbr (Nat.le_refl _) _) (Nat.le_refl _)
          have HX4 := Lib.hid hX4
          have HY4 := Lib.hid hY4
          clear hX4 hY4 hb4 y0 y1 y2 y3 y4
          obtain ⟨⟨x0, x1, x2, x3, x4⟩, xf⟩ := five HX4.out
          have hgx := HX4.out.lt
          have xf0 := xf 0
          have xf1 := xf 1
          have xf2 := xf 2
          have xf3 := xf 3
          have xf4 := xf 4
          have hgb := HY4.out.lt
          obtain ⟨⟨y0, y1, y2, y3, y4⟩, yf⟩ := five HY4.out
          clear xf yf
          go_wp2_with fail
          refine name_world2 ?_
          intro w5 hw5
          have HX5 := Lib.hid (show Bt w5 wr.heap.size (mn (mx (c / 2) (4 * m)) k) (mx (c / 2) (4 * m)) (0) m k by subst hw5; exact Bt.set5 HX4.out _ _ _ _ _)
          have HB5 := Lib.hid (show Bt w5 w.heap.size c s p m k by subst hw5; exact ((((HY4.out.far (by omega) _ _).far (by omega) _ _).far (by omega) _ _).far (by omega) _ _).far (by omega) _ _)
          have hB5 : Below w.heap.size w w5 := by subst hw5; exact (by (repeat (refine Below.setCell ?_ (by first | omega | (simp; done) | (simp; omega)) _)); exact hB4)
          clear hw5 x0 x1 x2 x3 x4 xf0 xf1 xf2 xf3 xf4 y0 y1 y2 y3 y4 hgx hgb
          obtain ⟨⟨x0, x1, x2, x3, x4⟩, xf⟩ := five HX5.out
          have hgx := HX5.out.lt
          have hgb := HB5.out.lt
          obtain ⟨⟨y0, y1, y2, y3, y4⟩, yf⟩ := five HB5.out
          clear xf yf
          refine (rmay _ _ _ _ _ _).mono ?_
          rw [HMM.out]
          rintro e w6 ⟨rfl, hb6⟩
          have HX6 := Lib.hid (HX5.out.below hb6)
          have HB6 := Lib.hid (HB5.out.below hb6)
          have hB6 : Below w.heap.size w w6 := below_tr hb6 hB5 (Nat.le_refl _)
          clear x0 x1 x2 x3 x4 y0 y1 y2 y3 y4 hgx hgb hb6
          obtain ⟨⟨x0, x1, x2, x3, x4⟩, xf⟩ := five HX6.out
          have hgx := HX6.out.lt
          have hgb := HB6.out.lt
          obtain ⟨⟨y0, y1, y2, y3, y4⟩, yf⟩ := five HB6.out
          have yf0 := yf 0
          have yf1 := yf 1
          have yf2 := yf 2
          have yf3 := yf 3
          have yf4 := yf 4
          clear xf yf
          go_wp2
          go_roundw
          case rel => exact ⟨j + 1, _, _, _, by omega, by go_num, Lib.hid ⟨Bt.set5 HB6.out _ _ _ _ _, HMM.out⟩, by (repeat (refine Below.setCell ?_ (by first | omega | (simp; done) | (simp; omega)) _)); exact hB6⟩
          case measure => simp [intOf]; omega
        have hb2 : (kd == 2) = false := by simpa using hk2
        by_cases hk3 : kd = 3
        · subst hk3
          have HMM := Lib.hid (may_timeout HM.out)
          go_wp2_with fail
          refine (ptimeout_t c s p m k _ HM.out).mono ?_
          rintro e w4 ⟨rfl, hb4⟩
          have hX4 : Bt w4 wr.heap.size c s p m k := (hb4.block wr.heap.size (by first | omega | (simp; done) | (simp; omega))).trans (al_new wr _ _ rfl)
          have hY4 : Bt w4 w.heap.size c s p m k := (hb4.block w.heap.size (by first | omega | (simp; done) | (simp; omega))).trans ((al_old wr _ _ hg).trans HBT.out)
          have hB4 : Below w.heap.size w w4 := below_tr hb4 (below_al hbr (Nat.le_refl _) _) (Nat.le_refl _)
          have HX4 := Lib.hid hX4
          have HY4 := Lib.hid hY4
          clear hX4 hY4 hb4 y0 y1 y2 y3 y4
          obtain ⟨⟨x0, x1, x2, x3, x4⟩, xf⟩ := five HX4.out
          have hgx := HX4.out.lt
          have xf0 := xf 0
          have xf1 := xf 1
          have xf2 := xf 2
          have xf3 := xf 3
          have xf4 := xf 4
          have hgb := HY4.out.lt
          obtain ⟨⟨y0, y1, y2, y3, y4⟩, yf⟩ := five HY4.out
          clear xf yf
          go_wp2_with fail
          refine name_world2 ?_
          intro w5 hw5
          have HX5 := Lib.hid (show Bt w5 wr.heap.size (m) (mx (c / 2) (4 * m)) (0) m k by subst hw5; exact Bt.set5 HX4.out _ _ _ _ _)
          have HB5 := Lib.hid (show Bt w5 w.heap.size c s p m k by subst hw5; exact ((((HY4.out.far (by omega) _ _).far (by omega) _ _).far (by omega) _ _).far (by omega) _ _).far (by omega) _ _)
          have hB5 : Below w.heap.size w w5 := by subst hw5; exact (by (repeat (refine Below.setCell ?_ (by first | omega | (simp; done) | (simp; omega)) _)); exact hB4)
          clear hw5 x0 x1 x2 x3 x4 xf0 xf1 xf2 xf3 xf4 y0 y1 y2 y3 y4 hgx hgb
          obtain ⟨⟨x0, x1, x2, x3, x4⟩, xf⟩ := five HX5.out
          have hgx := HX5.out.lt
          have hgb := HB5.out.lt
          obtain ⟨⟨y0, y1, y2, y3, y4⟩, yf⟩ := five HB5.out
          clear xf yf
          refine (rmay _ _ _ _ _ _).mono ?_
          rw [HMM.out]
          rintro e w6 ⟨rfl, hb6⟩
          have HX6 := Lib.hid (HX5.out.below hb6)
          have HB6 := Lib.hid (HB5.out.below hb6)
          have hB6 : Below w.heap.size w w6 := below_tr hb6 hB5 (Nat.le_refl _)
          clear x0 x1 x2 x3 x4 y0 y1 y2 y3 y4 hgx hgb hb6
          obtain ⟨⟨x0, x1, x2, x3, x4⟩, xf⟩ := five HX6.out
          have hgx := HX6.out.lt
          have hgb := HB6.out.lt
          obtain ⟨⟨y0, y1, y2, y3, y4⟩, yf⟩ := five HB6.out
          have yf0 := yf 0
          have yf1 := yf 1
          have yf2 := yf 2
          have yf3 := yf 3
          have yf4 := yf 4
          clear xf yf
          go_wp2
          go_roundw
          case rel => exact ⟨j + 1, _, _, _, by omega, by go_num, Lib.hid ⟨Bt.set5 HB6.out _ _ _ _ _, HMM.out⟩, by (repeat (refine Below.setCell ?_ (by first | omega | (simp; done) | (simp; omega)) _)); exact hB6⟩
          case measure => simp [intOf]; omega
        have hb3 : (kd == 3) = false := by simpa using hk3
        by_cases hk4 : kd = 4
        · subst hk4
          have HMM := Lib.hid (may_idle HM.out).1
          have hle := (may_idle HM.out).2
          go_wp2_with fail
          refine (pidle_t c s p m k _ HM.out).mono ?_
          rintro e w4 ⟨rfl, hb4⟩
          have hX4 : Bt w4 wr.heap.size c s p m k := (hb4.block wr.heap.size (by first | omega | (simp; done) | (simp; omega))).trans (al_new wr _ _ rfl)
          have hY4 : Bt w4 w.heap.size c s p m k := (hb4.block w.heap.size (by first | omega | (simp; done) | (simp; omega))).trans ((al_old wr _ _ hg).trans HBT.out)
          have hB4 : Below w.heap.size w w4 := below_tr hb4 (below_al hbr (Nat.le_refl _) _) (Nat.le_refl _)
          have HX4 := Lib.hid hX4
          have HY4 := Lib.hid hY4
          clear hX4 hY4 hb4 y0 y1 y2 y3 y4
          obtain ⟨⟨x0, x1, x2, x3, x4⟩, xf⟩ := five HX4.out
          have hgx := HX4.out.lt
          have xf0 := xf 0
          have xf1 := xf 1
          have xf2 := xf 2
          have xf3 := xf 3
          have xf4 := xf 4
          have hgb := HY4.out.lt
          obtain ⟨⟨y0, y1, y2, y3, y4⟩, yf⟩ := five HY4.out
          clear xf yf
          go_wp2_with fail
          refine name_world2 ?_
          intro w5 hw5
          have HX5 := Lib.hid (show Bt w5 wr.heap.size (mn c (mx (c / 2) (4 * m))) (s) (0) m k by subst hw5; exact Bt.set5 HX4.out _ _ _ _ _)
          have HB5 := Lib.hid (show Bt w5 w.heap.size c s p m k by subst hw5; exact ((((HY4.out.far (by omega) _ _).far (by omega) _ _).far (by omega) _ _).far (by omega) _ _).far (by omega) _ _)
          have hB5 : Below w.heap.size w w5 := by subst hw5; exact (by (repeat (refine Below.setCell ?_ (by first | omega | (simp; done) | (simp; omega)) _)); exact hB4)
          clear hw5 x0 x1 x2 x3 x4 xf0 xf1 xf2 xf3 xf4 y0 y1 y2 y3 y4 hgx hgb
          obtain ⟨⟨x0, x1, x2, x3, x4⟩, xf⟩ := five HX5.out
          have hgx := HX5.out.lt
          have hgb := HB5.out.lt
          obtain ⟨⟨y0, y1, y2, y3, y4⟩, yf⟩ := five HB5.out
          clear xf yf
          refine (rmay _ _ _ _ _ _).mono ?_
          rw [HMM.out]
          rintro e w6 ⟨rfl, hb6⟩
          have HX6 := Lib.hid (HX5.out.below hb6)
          have HB6 := Lib.hid (HB5.out.below hb6)
          have hB6 : Below w.heap.size w w6 := below_tr hb6 hB5 (Nat.le_refl _)
          clear x0 x1 x2 x3 x4 y0 y1 y2 y3 y4 hgx hgb hb6
          obtain ⟨⟨x0, x1, x2, x3, x4⟩, xf⟩ := five HX6.out
          have hgx := HX6.out.lt
          have hgb := HB6.out.lt
          obtain ⟨⟨y0, y1, y2, y3, y4⟩, yf⟩ := five HB6.out
          have yf0 := yf 0
          have yf1 := yf 1
          have yf2 := yf 2
          have yf3 := yf 3
          have yf4 := yf 4
          clear xf yf
          go_wp2
          go_roundw
          case rel => exact ⟨j + 1, _, _, _, by omega, by go_num, Lib.hid ⟨Bt.set5 HB6.out _ _ _ _ _, HMM.out⟩, by (repeat (refine Below.setCell ?_ (by first | omega | (simp; done) | (simp; omega)) _)); exact hB6⟩
          case measure => simp [intOf]; omega
        have hb4 : (kd == 4) = false := by simpa using hk4
        by_cases hk0 : kd = 0
        · subst hk0
          obtain ⟨hmm, hle1, hle2⟩ := may_ack full moved HM.out hn2 hn3
          have hpa := fun W => pack_t c s p m k n full moved W HM.out HIN.out
          generalize (if moved = true then ackC c s p m k n full else c) = C at hmm hle1 hle2 hpa
          generalize (if moved = true then ackP c s p m k n full else p) = P at hmm hpa
          have HMM := Lib.hid hmm
          have HPA := Lib.hid hpa
          clear hmm hpa
          go_wp2_with fail
          refine wp_region_held_drew (S := fun w' => Below wr.heap.size wr w' ∧ ∀ a : Addr, a.block < wr.heap.size → w'.cell? a = wr.cell? a) (by kernel_rfl) (keepB (below_al (Below.refl _ _) (Nat.le_refl _) _).drew) (fun hHeld => ?_)
          refine take_at (i := 0) (d := some 43) (v := ?v0) rfl rfl (by kernel_rfl) (by kernel_rfl) (by kernel_rfl) (fun _ _ _ h => h) (Or.inl ⟨by rfl, ?z0⟩) (by assumption) ?k0
          case z0 => (intro w hSw; (try dsimp only at hSw); go_simp; try (with_reducible rfl))
          try simp only [Act.put, List.setIfInBounds_toArray, List.set_cons_zero, List.set_cons_succ]
          refine take_at (i := 1) (d := some 44) (v := ?v1) rfl rfl (by kernel_rfl) (by kernel_rfl) (by kernel_rfl) (fun _ _ _ h => h) (Or.inl ⟨by rfl, ?z1⟩) (by assumption) ?k1
          case z1 => (intro w hSw; (try dsimp only at hSw); go_simp; try (with_reducible rfl))
          try simp only [Act.put, List.setIfInBounds_toArray, List.set_cons_zero, List.set_cons_succ]
          refine take_at (i := 2) (d := some 45) (v := ?v2) rfl rfl (by kernel_rfl) (by kernel_rfl) (by kernel_rfl) (fun _ _ _ h => h) (Or.inl ⟨by rfl, ?z2⟩) (by assumption) ?k2
          case z2 => (intro w hSw; (try dsimp only at hSw); go_simp; try (with_reducible rfl))
          try simp only [Act.put, List.setIfInBounds_toArray, List.set_cons_zero, List.set_cons_succ]
          refine take_at (i := 3) (d := some 46) (v := ?v3) rfl rfl (by kernel_rfl) (by kernel_rfl) (by kernel_rfl) (fun _ _ _ h => h) (Or.inl ⟨by rfl, ?z3⟩) (by assumption) ?k3
          case z3 => (intro w hSw; (try dsimp only at hSw); go_simp; try (with_reducible rfl))
          try simp only [Act.put, List.setIfInBounds_toArray, List.set_cons_zero, List.set_cons_succ]
          refine take_at (i := 4) (d := some 47) (v := ?v4) rfl rfl (by kernel_rfl) (by kernel_rfl) (by kernel_rfl) (fun _ _ _ h => h) (Or.inl ⟨by rfl, ?z4⟩) (by assumption) ?k4
          case z4 => (intro w hSw; (try dsimp only at hSw); go_simp; try (with_reducible rfl))
          try simp only [Act.put, List.setIfInBounds_toArray, List.set_cons_zero, List.set_cons_succ]
          refine take_at (i := 5) (d := some 48) (v := ?v5) rfl rfl (by kernel_rfl) (by kernel_rfl) (by kernel_rfl) (fun _ _ _ h => h) (Or.inl ⟨by rfl, ?z5⟩) (by assumption) ?k5
          case z5 => (intro w hSw; (try dsimp only at hSw); go_simp; try (with_reducible rfl))
          try simp only [Act.put, List.setIfInBounds_toArray, List.set_cons_zero, List.set_cons_succ]
          refine take_at (i := 6) (d := some 49) (v := ?v6) rfl rfl (by kernel_rfl) (by kernel_rfl) (by kernel_rfl) (fun _ _ _ h => h) (Or.inl ⟨by rfl, ?z6⟩) (by assumption) ?k6
          case z6 => (intro w hSw; (try dsimp only at hSw); go_simp; try (with_reducible rfl))
          try simp only [Act.put, List.setIfInBounds_toArray, List.set_cons_zero, List.set_cons_succ]
          refine take_at (i := 7) (d := some 50) (v := ?v7) rfl rfl (by kernel_rfl) (by kernel_rfl) (by kernel_rfl) (fun _ _ _ h => h) (Or.inl ⟨by rfl, ?z7⟩) (by assumption) ?k7
          case z7 => (intro w hSw; (try dsimp only at hSw); go_simp; try (with_reducible rfl))
          try simp only [Act.put, List.setIfInBounds_toArray, List.set_cons_zero, List.set_cons_succ]
          refine take_at (i := 8) (d := some 51) (v := ?v8) rfl rfl (by kernel_rfl) (by kernel_rfl) (by kernel_rfl) (fun _ _ _ h => h) (Or.inl ⟨by rfl, ?z8⟩) (by assumption) ?k8
          case z8 => (intro w hSw; (try dsimp only at hSw); go_simp; try (with_reducible rfl))
          try simp only [Act.put, List.setIfInBounds_toArray, List.set_cons_zero, List.set_cons_succ]
          refine take_at (i := 9) (d := some 52) (v := ?v9) rfl rfl (by kernel_rfl) (by kernel_rfl) (by kernel_rfl) (fun _ _ _ h => h) (Or.inl ⟨by rfl, ?z9⟩) (by assumption) ?k9
          case z9 => (intro w hSw; (try dsimp only at hSw); go_simp; try (with_reducible rfl))
          try simp only [Act.put, List.setIfInBounds_toArray, List.set_cons_zero, List.set_cons_succ]
          refine take_at (i := 10) (d := some 53) (v := ?v10) rfl rfl (by kernel_rfl) (by kernel_rfl) (by kernel_rfl) (fun _ _ _ h => h) (Or.inl ⟨by rfl, ?z10⟩) (by assumption) ?k10
          case z10 => (intro w hSw; (try dsimp only at hSw); go_simp; try (with_reducible rfl))
          try simp only [Act.put, List.setIfInBounds_toArray, List.set_cons_zero, List.set_cons_succ]
          refine take_at (i := 11) (d := some 54) (v := ?v11) rfl rfl (by kernel_rfl) (by kernel_rfl) (by kernel_rfl) (fun _ _ _ h => h) (Or.inl ⟨by rfl, ?z11⟩) (by assumption) ?k11
          case z11 => (intro w hSw; (try dsimp only at hSw); go_simp; try (with_reducible rfl))
          try simp only [Act.put, List.setIfInBounds_toArray, List.set_cons_zero, List.set_cons_succ]
          refine wpAnyH_ready (rs := [12]) (by kernel_rfl) (by simp) ?_
          refine AllReadyH.cons rfl (fun K hK => ?_) AllReadyH.nil
          go_simp
          refine (HPA.out _).mono ?_
          rintro e w4 ⟨rfl, hb4⟩
          have hW4 : Below wr.heap.size wr w4 := below_tr hb4 (below_al (Below.refl _ _) (Nat.le_refl _) _).drew (Nat.le_refl _)
          have HX4 := Lib.hid (show Bt w4 wr.heap.size c s p m k from (hb4.block wr.heap.size (by first | omega | (simp; done) | (simp; omega))).trans (al_new wr _ _ rfl))
          have HY4 := Lib.hid (show Bt w4 w.heap.size c s p m k from (hb4.block w.heap.size (by first | omega | (simp; done) | (simp; omega))).trans ((al_old wr _ _ hg).trans HBT.out))
          have hB4 : Below w.heap.size w w4 := below_tr hb4 (below_al hbr (Nat.le_refl _) _).drew (Nat.le_refl _)
          obtain ⟨⟨x0, x1, x2, x3, x4⟩, xf⟩ := five HX4.out
          have hgx := HX4.out.lt
          have xf0 := xf 0
          have xf1 := xf 1
          have xf2 := xf 2
          have xf3 := xf 3
          have xf4 := xf 4
          clear xf hHeld
          go_wp2_with fail
          refine hK.out _ _ (keepB hW4) (fun hHeld => ?_)
          clear hK K
          try simp only [Act.put, List.setIfInBounds_toArray, List.set_cons_zero, List.set_cons_succ]
          refine take_at (i := 13) (d := some 42) (v := ?v13) rfl rfl (by kernel_rfl) (by kernel_rfl) (by kernel_rfl) (fun _ _ _ h => h) (Or.inl ⟨by rfl, ?z13⟩) (by assumption) ?k13
          case z13 => (intro w hSw; (try dsimp only at hSw); go_simp; try (with_reducible rfl))
          try simp only [Act.put, List.setIfInBounds_toArray, List.set_cons_zero, List.set_cons_succ]
          refine take_at (i := 14) (d := some 56) (v := ?v14) rfl rfl (by kernel_rfl) (by kernel_rfl) (by kernel_rfl) (fun _ _ _ h => h) (Or.inl ⟨by rfl, ?z14⟩) (by assumption) ?k14
          case z14 => (intro w hSw; (try dsimp only at hSw); go_simp; try (with_reducible rfl))
          try simp only [Act.put, List.setIfInBounds_toArray, List.set_cons_zero, List.set_cons_succ]
          refine take_at (i := 15) (d := some 57) (v := ?v15) rfl rfl (by kernel_rfl) (by kernel_rfl) (by kernel_rfl) (fun _ _ _ h => h) (Or.inl ⟨by rfl, ?z15⟩) (by assumption) ?k15
          case z15 => (intro w hSw; (try dsimp only at hSw); go_simp; try (with_reducible rfl))
          try simp only [Act.put, List.setIfInBounds_toArray, List.set_cons_zero, List.set_cons_succ]
          refine wpAnyH_ready (rs := [16]) (by kernel_rfl) (by simp) ?_
          refine AllReadyH.cons rfl (fun K hK => ?_) AllReadyH.nil
          go_simp
          refine hK.out _ _ (keepB (by (repeat (refine Below.setCell ?_ (by first | omega | (simp; done) | (simp; omega)) _)); exact hW4)) (fun hHeld => ?_)
          clear hK K
          try simp only [Act.put, List.setIfInBounds_toArray, List.set_cons_zero, List.set_cons_succ]
          refine take_at (i := 17) (d := some 8) (v := ?v17) rfl rfl (by kernel_rfl) (by kernel_rfl) (by kernel_rfl) (fun _ _ _ h => h) (Or.inl ⟨by rfl, ?z17⟩) (by assumption) ?k17
          case z17 => (intro w hSw; (try dsimp only at hSw); go_simp; try (with_reducible rfl))
          try simp only [Act.put, List.setIfInBounds_toArray, List.set_cons_zero, List.set_cons_succ]
          refine wpAnyH_done (by kernel_rfl) ?_ _
          clear hHeld
          refine name_exit ?_
          intro w5 hw5
          have HX5 := Lib.hid (show Bt w5 wr.heap.size C s P m k by subst hw5; exact Bt.set5 HX4.out _ _ _ _ _)
          have HB5 := Lib.hid (show Bt w5 w.heap.size c s p m k by subst hw5; exact ((((HY4.out.far (by omega) _ _).far (by omega) _ _).far (by omega) _ _).far (by omega) _ _).far (by omega) _ _)
          have hB5 : Below w.heap.size w w5 := by subst hw5; exact (by (repeat (refine Below.setCell ?_ (by first | omega | (simp; done) | (simp; omega)) _)); exact hB4)
          clear hw5 x0 x1 x2 x3 x4 xf0 xf1 xf2 xf3 xf4 y0 y1 y2 y3 y4 hgx
          obtain ⟨⟨x0, x1, x2, x3, x4⟩, xf⟩ := five HX5.out
          have hgx := HX5.out.lt
          have hgb := HB5.out.lt
          obtain ⟨⟨y0, y1, y2, y3, y4⟩, yf⟩ := five HB5.out
          clear xf yf
          go_wp2_with fail
          refine (rmay _ _ _ _ _ _).mono ?_
          rw [HMM.out]
          rintro e w6 ⟨rfl, hb6⟩
          have HX6 := Lib.hid (HX5.out.below hb6)
          have HB6 := Lib.hid (HB5.out.below hb6)
          have hB6 : Below w.heap.size w w6 := below_tr hb6 hB5 (Nat.le_refl _)
          clear x0 x1 x2 x3 x4 y0 y1 y2 y3 y4 hgx hgb hb6
          obtain ⟨⟨x0, x1, x2, x3, x4⟩, xf⟩ := five HX6.out
          have hgx := HX6.out.lt
          have hgb := HB6.out.lt
          obtain ⟨⟨y0, y1, y2, y3, y4⟩, yf⟩ := five HB6.out
          have yf0 := yf 0
          have yf1 := yf 1
          have yf2 := yf 2
          have yf3 := yf 3
          have yf4 := yf 4
          clear xf yf
          go_wp2
          go_roundw
          case rel => exact ⟨j + 1, _, _, _, by omega, by go_num, Lib.hid ⟨Bt.set5 HB6.out _ _ _ _ _, HMM.out⟩, by (repeat (refine Below.setCell ?_ (by first | omega | (simp; done) | (simp; omega)) _)); exact hB6⟩
          case measure => simp [intOf]; omega
        have hb0 : (kd == 0) = false := by simpa using hk0
        have HMM := Lib.hid HM.out
        go_wp2_with fail
        refine name_world2 ?_
        intro w5 hw5
        have HX5 := Lib.hid (show Bt w5 wr.heap.size c s p m k by subst hw5; exact al_new wr _ _ rfl)
        have HB5 := Lib.hid (show Bt w5 w.heap.size c s p m k by subst hw5; exact HBT.out.alloc _)
        have hB5 : Below w.heap.size w w5 := by subst hw5; exact below_al hbr (Nat.le_refl _) _
        clear hw5 y0 y1 y2 y3 y4
        obtain ⟨⟨x0, x1, x2, x3, x4⟩, xf⟩ := five HX5.out
        have hgx := HX5.out.lt
        have hgb := HB5.out.lt
        obtain ⟨⟨y0, y1, y2, y3, y4⟩, yf⟩ := five HB5.out
        clear xf yf
        refine (rmay _ _ _ _ _ _).mono ?_
        rw [HMM.out]
        rintro e w6 ⟨rfl, hb6⟩
        have HX6 := Lib.hid (HX5.out.below hb6)
        have HB6 := Lib.hid (HB5.out.below hb6)
        have hB6 : Below w.heap.size w w6 := below_tr hb6 hB5 (Nat.le_refl _)
        clear x0 x1 x2 x3 x4 y0 y1 y2 y3 y4 hgx hgb hb6
        obtain ⟨⟨x0, x1, x2, x3, x4⟩, xf⟩ := five HX6.out
        have hgx := HX6.out.lt
        have hgb := HB6.out.lt
        obtain ⟨⟨y0, y1, y2, y3, y4⟩, yf⟩ := five HB6.out
        have yf0 := yf 0
        have yf1 := yf 1
        have yf2 := yf 2
        have yf3 := yf 3
        have yf4 := yf 4
        clear xf yf
        go_wp2
        go_roundw
        case rel => exact ⟨j + 1, _, _, _, by omega, by go_num, Lib.hid ⟨Bt.set5 HB6.out _ _ _ _ _, HMM.out⟩, by (repeat (refine Below.setCell ?_ (by first | omega | (simp; done) | (simp; omega)) _)); exact hB6⟩
        case measure => simp [intOf]; omega
      · go_wp2
        go_ret
        exact ⟨rfl, hbr⟩
