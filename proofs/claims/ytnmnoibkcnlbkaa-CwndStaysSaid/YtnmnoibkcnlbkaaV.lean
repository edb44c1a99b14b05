/- The law CwndDoubles. -/
import Derived.Test.YtnmnoibkcnlbkaaS
namespace Go.Proofs.Ytnmnoibkcnlbkaa.C
open Go.RowKit
set_option linter.unusedVariables false
set_option linter.unusedSimpArgs false
attribute [local go_sem high] max2_mx min2_mn max_two min_two
attribute [local go_sem ↓] Go.wp_at_zero Go.wp_at_succ

/-- a window lies in block g -/
def Bt (w : World) (g : Nat) (c s p m k : Int) : Prop := w.heap[g]? = some (.cells #[.int .i64 c, .int .i64 s, .int .i64 p, .int .i64 m, .int .i64 k] 24 (0, 0))
theorem Bt.below {w w' : World} {g : Nat} {c s p m k : Int} (h : Bt w g c s p m k) (hb : Below w.heap.size w w') : Bt w' g c s p m k := by
  unfold Bt; rw [hb.block g (Array.getElem?_eq_some_iff.1 h).1]; exact h
theorem Bt.lt {w : World} {g : Nat} {c s p m k : Int} (h : Bt w g c s p m k) : g < w.heap.size := (Array.getElem?_eq_some_iff.1 h).1
theorem Bt.set5 {w : World} {g : Nat} {c s p m k : Int} (h : Bt w g c s p m k) (a b d e f : Int) :
    Bt (((((w.setCell ⟨g, 0, none⟩ (.int .i64 a)).setCell ⟨g, 1, none⟩ (.int .i64 b)).setCell ⟨g, 2, none⟩ (.int .i64 d)).setCell ⟨g, 3, none⟩ (.int .i64 e)).setCell ⟨g, 4, none⟩ (.int .i64 f)) g a b d e f :=
  heap_setCell_same _ g 4 _ 24 _ (heap_setCell_same _ g 3 _ 24 _ (heap_setCell_same _ g 2 _ 24 _ (heap_setCell_same _ g 1 _ 24 _ (heap_setCell_same w g 0 _ 24 _ h))))
theorem Bt.set0 {w : World} {g : Nat} {c s p m k : Int} (h : Bt w g c s p m k) (a : Int) : Bt (w.setCell ⟨g, 0, none⟩ (.int .i64 a)) g a s p m k := heap_setCell_same w g 0 _ 24 _ h
theorem Bt.alloc {w : World} {g : Nat} {c s p m k : Int} (h : Bt w g c s p m k) (o : Obj) : Bt (w.alloc o) g c s p m k := by
  unfold Bt; rw [al_old w o g h.lt]; exact h

theorem prod_range (P m : Int) (p0 : 1 ≤ P) (p1 : P ≤ 200) (m0 : 100 ≤ m) (m1 : m ≤ 1500) : 100 ≤ P * m ∧ P * m ≤ 300000 ∧ m ≤ P * m := by
  have h1 : 1 * m ≤ P * m := Int.mul_le_mul_of_nonneg_right p0 (by omega)
  have h2 : P * m ≤ 200 * m := Int.mul_le_mul_of_nonneg_right p1 (by omega)
  omega
theorem ack_step (C S m : Int) (w : World) (m0 : 100 ≤ m) (m1 : m ≤ 1500) (s0 : 4 * m ≤ S) (s1 : S ≤ 1073741824) (c0 : m ≤ C) (c1 : C ≤ S) (c2 : C ≤ 600000) :
    Calls Try.prog 10 #[.agg #[.int .i64 C, .int .i64 S, .int .i64 0, .int .i64 m, .int .i64 1073741824], .int .i64 m, .bool true, .bool true] w (Win (C + m) S 0 m 1073741824 0 w) := by
  have hm : MayB C S 0 m 1073741824 = true := by unfold MayB inB; simp; omega
  have hn : inB m 0 1073741824 = true := by unfold inB; simp; omega
  have h := pack_t C S 0 m 1073741824 m true true w hm hn
  have e1 : ackC C S 0 m 1073741824 m true = C + m := by
    unfold ackC
    rw [if_pos c1, if_pos rfl]
    simp only [mn_def, Int.le_refl, if_true]
    rw [if_neg (by omega)]
  have e2 : ackP C S 0 m 1073741824 m true = 0 := by unfold ackP; rw [if_pos c1]
  rw [e1, e2] at h
  simpa using h
theorem ssthresh_range (mtu peer : Int) (m0 : 100 ≤ mtu) (m1 : mtu ≤ 1500) : 4 * mtu ≤ mn (mx peer (4 * mtu)) 1073741824 ∧ mn (mx peer (4 * mtu)) 1073741824 ≤ 1073741824 := by
  simp only [mn_def, mx_def]
  split <;> split <;> omega

set_option maxHeartbeats 4000000 in
set_option maxRecDepth 100000 in
theorem walk_CwndDoubles (mtu packets peer : Int) (w : World) (g0 : (Lit.int .i64 mtu).wf = true) (g1 : (Lit.int .i64 packets).wf = true) (g2 : (Lit.int .i64 peer).wf = true) :
    Calls Try.prog 3 #[.int .i64 mtu, .int .i64 packets, .int .i64 peer] w fun e w' => e = .returned (.bool true) ∧ Below w.heap.size w w' := by
  have hu24 := Try.underlying24
  clear g0 g1 g2
  cases hm : inB mtu 100 1500
  · go_enter Try.func3, Try.ntmps3
    go_wp2_with fail
    refine (awake _).mono ?_
    rintro e w1 ⟨rfl, hb1⟩
    go_wp2_with fail
    refine (popen_m mtu 1073741824 peer _ hm).mono ?_
    rintro e w2 ⟨rfl, hb2⟩
    go_wp2
    go_ret
    exact ⟨rfl, (by repeat (first | with_reducible exact Below.refl _ _ | with_reducible assumption | with_reducible refine Below.drew ?_ | with_reducible refine below_dN ?_ _ | with_reducible refine Below.setCell ?_ (by first | omega | (simp; done) | (simp; omega)) _ | with_reducible refine below_al ?_ (by first | omega | (simp; done) | (simp; omega)) _ | exact Below.refl _ _ | assumption | refine Below.drew ?_ | refine below_dN ?_ _ | refine Below.setCell ?_ (by first | omega | (simp; done) | (simp; omega)) _ | refine below_al ?_ (by first | omega | (simp; done) | (simp; omega)) _ | refine below_tr (by assumption) ?_ (by first | omega | (simp; done) | (simp; omega))))⟩
  · obtain ⟨m0, m1⟩ := inB_t hm
    have hl : inB 1073741824 (4 * mtu) 1073741824 = true := by unfold inB; simp; omega
    have hpo := fun w => popen_t mtu 1073741824 peer w hm hl
    obtain ⟨s0, s1⟩ := ssthresh_range mtu peer m0 m1
    generalize mn (mx peer (4 * mtu)) 1073741824 = S at hpo s0 s1
    have HPO := Lib.hid hpo
    clear hpo hl hm
    by_cases hp0 : packets < 1
    · go_enter Try.func3, Try.ntmps3
      go_wp2_with fail
      refine (awake _).mono ?_
      rintro e w1 ⟨rfl, hb1⟩
      go_wp2_with fail
      refine (HPO.out _).mono ?_
      rintro e w2 ⟨rfl, hb2⟩
      go_wp2
      go_ret
      exact ⟨rfl, (by repeat (first | with_reducible exact Below.refl _ _ | with_reducible assumption | with_reducible refine Below.drew ?_ | with_reducible refine below_dN ?_ _ | with_reducible refine Below.setCell ?_ (by first | omega | (simp; done) | (simp; omega)) _ | with_reducible refine below_al ?_ (by first | omega | (simp; done) | (simp; omega)) _ | exact Below.refl _ _ | assumption | refine Below.drew ?_ | refine below_dN ?_ _ | refine Below.setCell ?_ (by first | omega | (simp; done) | (simp; omega)) _ | refine below_al ?_ (by first | omega | (simp; done) | (simp; omega)) _ | refine below_tr (by assumption) ?_ (by first | omega | (simp; done) | (simp; omega))))⟩
    by_cases hp1 : 200 < packets
    · go_enter Try.func3, Try.ntmps3
      go_wp2_with fail
      refine (awake _).mono ?_
      rintro e w1 ⟨rfl, hb1⟩
      go_wp2_with fail
      refine (HPO.out _).mono ?_
      rintro e w2 ⟨rfl, hb2⟩
      go_wp2
      go_ret
      exact ⟨rfl, (by repeat (first | with_reducible exact Below.refl _ _ | with_reducible assumption | with_reducible refine Below.drew ?_ | with_reducible refine below_dN ?_ _ | with_reducible refine Below.setCell ?_ (by first | omega | (simp; done) | (simp; omega)) _ | with_reducible refine below_al ?_ (by first | omega | (simp; done) | (simp; omega)) _ | exact Below.refl _ _ | assumption | refine Below.drew ?_ | refine below_dN ?_ _ | refine Below.setCell ?_ (by first | omega | (simp; done) | (simp; omega)) _ | refine below_al ?_ (by first | omega | (simp; done) | (simp; omega)) _ | refine below_tr (by assumption) ?_ (by first | omega | (simp; done) | (simp; omega))))⟩
    obtain ⟨n, rfl⟩ := Int.eq_ofNat_of_zero_le (show 0 ≤ packets by omega)
    obtain ⟨d0, d1, d2⟩ := prod_range n mtu (by omega) (by omega) m0 m1
    have e2 : 2 * (n : Int) * mtu = 2 * ((n : Int) * mtu) := by rw [Int.mul_assoc]
    generalize hD : (n : Int) * mtu = D at d0 d1 d2 e2
    by_cases hs : S < 2 * D
    · go_enter Try.func3, Try.ntmps3
      go_wp2_with fail
      refine (awake _).mono ?_
      rintro e w1 ⟨rfl, hb1⟩
      go_wp2_with fail
      refine (HPO.out _).mono ?_
      rintro e w2 ⟨rfl, hb2⟩
      go_wp2
      go_ret
      exact ⟨rfl, (by repeat (first | with_reducible exact Below.refl _ _ | with_reducible assumption | with_reducible refine Below.drew ?_ | with_reducible refine below_dN ?_ _ | with_reducible refine Below.setCell ?_ (by first | omega | (simp; done) | (simp; omega)) _ | with_reducible refine below_al ?_ (by first | omega | (simp; done) | (simp; omega)) _ | exact Below.refl _ _ | assumption | refine Below.drew ?_ | refine below_dN ?_ _ | refine Below.setCell ?_ (by first | omega | (simp; done) | (simp; omega)) _ | refine below_al ?_ (by first | omega | (simp; done) | (simp; omega)) _ | refine below_tr (by assumption) ?_ (by first | omega | (simp; done) | (simp; omega))))⟩
    · have HD := Lib.hid hD
      go_enter Try.func3, Try.ntmps3
      go_wp2_with fail
      refine (awake _).mono ?_
      rintro e w1 ⟨rfl, hb1⟩
      go_wp2_with fail
      refine (HPO.out _).mono ?_
      rintro e w2 ⟨rfl, hb2⟩
      have hB2 : Below w.heap.size w w2 := (by repeat (first | with_reducible exact Below.refl _ _ | with_reducible assumption | with_reducible refine Below.drew ?_ | with_reducible refine below_dN ?_ _ | with_reducible refine Below.setCell ?_ (by first | omega | (simp; done) | (simp; omega)) _ | with_reducible refine below_al ?_ (by first | omega | (simp; done) | (simp; omega)) _ | exact Below.refl _ _ | assumption | refine Below.drew ?_ | refine below_dN ?_ _ | refine Below.setCell ?_ (by first | omega | (simp; done) | (simp; omega)) _ | refine below_al ?_ (by first | omega | (simp; done) | (simp; omega)) _ | refine below_tr (by assumption) ?_ (by first | omega | (simp; done) | (simp; omega))))
      have hzw : w.heap.size ≤ w2.heap.size := hB2.size
      clear hb1 hb2
      go_wp2
      refine name_world ?_
      intro w3 hw3
      have hbt : Bt w3 w2.heap.size D S 0 mtu 1073741824 := by subst hw3; exact heap_alloc_new w2 _
      have hB3 : Below w.heap.size w w3 := by subst hw3; exact (by repeat (first | with_reducible exact Below.refl _ _ | with_reducible assumption | with_reducible refine Below.drew ?_ | with_reducible refine below_dN ?_ _ | with_reducible refine Below.setCell ?_ (by first | omega | (simp; done) | (simp; omega)) _ | with_reducible refine below_al ?_ (by first | omega | (simp; done) | (simp; omega)) _ | exact Below.refl _ _ | assumption | refine Below.drew ?_ | refine below_dN ?_ _ | refine Below.setCell ?_ (by first | omega | (simp; done) | (simp; omega)) _ | refine below_al ?_ (by first | omega | (simp; done) | (simp; omega)) _ | refine below_tr (by assumption) ?_ (by first | omega | (simp; done) | (simp; omega))))
      clear hw3
      have HBT := Lib.hid hbt
      clear hbt
      go_loopw [9] (fun i wr => ∃ j : Nat, j ≤ n ∧ i = .int .i64 j ∧ Hid (Bt wr w2.heap.size (D + j * mtu) S 0 mtu 1073741824) ∧ Below w.heap.size w wr) (fun i _ => n - (intOf i).toNat)
      case atStart => exact ⟨0, by omega, rfl, Lib.hid (by simpa using HBT.out), hB3⟩
      case round =>
        obtain ⟨j, hj, rfl, hbt, hbr⟩ := hrel
        have hszr := hbr.size
        by_cases hlt : j < n
        · have hjm : (j : Int) * mtu + mtu ≤ D := by
            have h := Int.mul_le_mul_of_nonneg_right (show (j : Int) + 1 ≤ n by omega) (show 0 ≤ mtu by omega)
            rw [Int.add_mul, Int.one_mul, HD.out] at h
            exact h
          have hj0 : 0 ≤ (j : Int) * mtu := Int.mul_nonneg (by omega) (by omega)
          have hnext : D + (j : Int) * mtu + mtu = D + ((j + 1 : Nat) : Int) * mtu := by
            push_cast
            rw [Int.add_mul, Int.one_mul]
            omega
          have HN := Lib.hid hnext
          clear hnext
          generalize hC : D + (j : Int) * mtu = C at hbt HN
          have HC := Lib.hid hC
          have hc0 : mtu ≤ C := by omega
          have hc1 : C ≤ S := by omega
          have hc2 : C ≤ 600000 := by omega
          clear hC
          have hg := hbt.out.lt
          obtain ⟨⟨y0, y1, y2, y3, y4⟩, yf⟩ := five hbt.out
          clear yf
          go_wp2_with fail
          refine (ack_step C S mtu _ m0 m1 s0 s1 hc0 hc1 hc2).mono ?_
          rintro e w4 ⟨rfl, hb4⟩
          have HB4 := Lib.hid (hbt.out.below hb4)
          have hg4 := HB4.out.lt
          have hB4 : Below w.heap.size w w4 := (by repeat (first | with_reducible exact Below.refl _ _ | with_reducible assumption | with_reducible refine Below.drew ?_ | with_reducible refine below_dN ?_ _ | with_reducible refine Below.setCell ?_ (by first | omega | (simp; done) | (simp; omega)) _ | with_reducible refine below_al ?_ (by first | omega | (simp; done) | (simp; omega)) _ | exact Below.refl _ _ | assumption | refine Below.drew ?_ | refine below_dN ?_ _ | refine Below.setCell ?_ (by first | omega | (simp; done) | (simp; omega)) _ | refine below_al ?_ (by first | omega | (simp; done) | (simp; omega)) _ | refine below_tr (by assumption) ?_ (by first | omega | (simp; done) | (simp; omega))))
          clear y0 y1 y2 y3 y4 hb4
          obtain ⟨⟨y0, y1, y2, y3, y4⟩, yf⟩ := five HB4.out
          have yf0 := yf 0
          have yf1 := yf 1
          have yf2 := yf 2
          have yf3 := yf 3
          have yf4 := yf 4
          clear yf
          go_wp2
          go_roundw
          case rel => exact ⟨j + 1, by omega, by go_num, Lib.hid (by rw [← HN.out]; exact (Bt.set5 HB4.out _ _ _ _ _).alloc _), (by repeat (first | with_reducible exact Below.refl _ _ | with_reducible assumption | with_reducible refine Below.drew ?_ | with_reducible refine below_dN ?_ _ | with_reducible refine Below.setCell ?_ (by first | omega | (simp; done) | (simp; omega)) _ | with_reducible refine below_al ?_ (by first | omega | (simp; done) | (simp; omega)) _ | exact Below.refl _ _ | assumption | refine Below.drew ?_ | refine below_dN ?_ _ | refine Below.setCell ?_ (by first | omega | (simp; done) | (simp; omega)) _ | refine below_al ?_ (by first | omega | (simp; done) | (simp; omega)) _ | refine below_tr (by assumption) ?_ (by first | omega | (simp; done) | (simp; omega))))⟩
          case measure => simp [intOf]; omega
        · obtain rfl : j = n := by omega
          have HD' := HD.out
          have hbt' := hbt.out
          rw [HD'] at hbt'
          have hg := hbt'.lt
          obtain ⟨⟨y0, y1, y2, y3, y4⟩, yf⟩ := five hbt'
          have he : (D + D == 2 * D) = true := by rw [beq_iff_eq]; omega
          clear yf hbt' hbt HD'
          go_wp2
          go_ret
          exact ⟨rfl, (by repeat (first | with_reducible exact Below.refl _ _ | with_reducible assumption | with_reducible refine Below.drew ?_ | with_reducible refine below_dN ?_ _ | with_reducible refine Below.setCell ?_ (by first | omega | (simp; done) | (simp; omega)) _ | with_reducible refine below_al ?_ (by first | omega | (simp; done) | (simp; omega)) _ | exact Below.refl _ _ | assumption | refine Below.drew ?_ | refine below_dN ?_ _ | refine Below.setCell ?_ (by first | omega | (simp; done) | (simp; omega)) _ | refine below_al ?_ (by first | omega | (simp; done) | (simp; omega)) _ | refine below_tr (by assumption) ?_ (by first | omega | (simp; done) | (simp; omega))))⟩
