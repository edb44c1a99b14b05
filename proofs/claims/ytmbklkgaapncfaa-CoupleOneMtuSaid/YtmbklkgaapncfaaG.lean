/- The law CoupleAll. -/
import Derived.Test.YtmbklkgaapncfaaF
namespace Go.Proofs.Ytmbklkgaapncfaa.C
open Go.RowKit OpenStruct
set_option linter.unusedVariables false
set_option linter.unusedSimpArgs false
attribute [local go_sem high] max2_mx min2_mn max_two min_two
attribute [local go_sem ↓] Go.wp_at_zero Go.wp_at_succ

/-- N is all that the first k are given of x -/
def Given (zs : List E32) (x : Int) (k : Nat) (N : Int) : Prop := 0 ≤ N ∧ N * sumT zs ≤ x * sumT (zs.take k) ∧ x * sumT (zs.take k) ≤ N * sumT zs + k * (sumT zs - 1)
theorem given_0 (zs : List E32) (x : Int) : Given zs x 0 0 := by simp [Given, sumT]
theorem share_div {zs : List E32} {j : Nat} {x : Int} (hT : 0 < sumT zs) (hx : 0 ≤ x) (ht : 0 ≤ gt zs j) : 0 ≤ shareV zs j x ∧ shareV zs j x * sumT zs ≤ x * gt zs j ∧ x * gt zs j ≤ shareV zs j x * sumT zs + (sumT zs - 1) := by
  unfold shareV
  have h1 := Int.ediv_mul_le (x * gt zs j) (show sumT zs ≠ 0 by omega)
  have h2 := Int.lt_ediv_add_one_mul_self (x * gt zs j) hT
  rw [Int.add_mul] at h2
  exact ⟨Int.ediv_nonneg (Int.mul_nonneg hx ht) (by omega), h1, by omega⟩
theorem given_s {zs : List E32} {x : Int} {k : Nat} {N : Int} (h : Given zs x k N) (hk : k < zs.length) (hT : 0 < sumT zs) (hx : 0 ≤ x) (ht : 0 ≤ gt zs k) : Given zs x (k + 1) (N + shareV zs k x) := by
  obtain ⟨h0, h1, h2⟩ := h
  obtain ⟨g0, g1, g2⟩ := share_div hT hx ht
  have e1 : ((k + 1 : Nat) : Int) * (sumT zs - 1) = k * (sumT zs - 1) + (sumT zs - 1) := by
    rw [Int.natCast_add, Int.add_mul]; simp
  refine ⟨by omega, ?_, ?_⟩
  · rw [sumT_snoc zs k hk, Int.mul_add, Int.add_mul]; omega
  · rw [sumT_snoc zs k hk, Int.mul_add, Int.add_mul, e1]; omega
theorem sumT_le {zs : List E32} (h : okFs zs = true) (k : Nat) (hk : k ≤ zs.length) : sumT (zs.take k) ≤ sumT zs := by
  obtain ⟨d, hd⟩ : ∃ d, d = zs.length - k := ⟨_, rfl⟩
  induction d generalizing k with
  | zero => rw [List.take_of_length_le (by omega)]; exact Int.le_refl _
  | succ d ih =>
    have h1 := ih (k + 1) (by omega) (by omega)
    rw [sumT_snoc zs k (by omega)] at h1
    obtain ⟨_, _, h2, _⟩ := okFs_at h k (by omega)
    omega
theorem given_le {zs : List E32} {x : Int} {k : Nat} {N : Int} (h : Given zs x k N) (hok : okFs zs = true) (hk : k ≤ zs.length) (hT : 0 < sumT zs) (hx : 0 ≤ x) : 0 ≤ N ∧ N ≤ x := by
  refine ⟨h.1, ?_⟩
  have h1 := Int.mul_le_mul_of_nonneg_left (sumT_le hok k hk) hx
  exact Int.le_of_mul_le_mul_right (Int.le_trans h.2.1 h1) hT
theorem given_end {zs : List E32} {x : Int} {N : Int} (h : Given zs x zs.length N) (hl : 0 < zs.length) (hT : 0 < sumT zs) : x - zs.length < N := by
  have h2 := h.2.2
  rw [List.take_of_length_le (Nat.le_refl _), Int.mul_sub, Int.mul_one] at h2
  have h3 : x * sumT zs < (N + zs.length) * sumT zs := by rw [Int.add_mul]; omega
  have := Int.lt_of_mul_lt_mul_right h3 (by omega)
  omega

set_option maxHeartbeats 2000000 in
theorem walk_CoupleAll (a0 : Option Addr) (len0 cap0 : Nat) (z0 : List E32) (a1 : Int) (w : World) (w0 : Row32 w a0 len0 cap0 z0) (w1 : (Lit.int .i64 a1).wf = true) :
    Calls Try.prog 4 #[.slice a0 len0 cap0, .int .i64 a1] w fun e w' => e = .returned (.bool true) ∧ Below w.heap.size w w' := by
  have hu32 := Try.underlying32
  have HR := Lib.hid (Fd.of_row w0)
  have HL := Lib.hid HR.out.1
  clear w0 w1
  by_cases hg : checkV z0 1 = 0 ∧ 0 ≤ a1 ∧ a1 ≤ 1073741824
  · obtain ⟨hc, x0, x1⟩ := hg
    have hrt := checkV_1 hc
    have HK := Lib.hid (show okFs z0 = true by simp [rightF] at hrt; exact hrt.2.2)
    have hln : 1 ≤ len0 ∧ len0 ≤ 8 := by simp [rightF, inB] at hrt; rw [HL.out] at hrt; omega
    obtain ⟨l1, l8⟩ := hln
    have HT := Lib.hid (show 0 < sumT z0 by have := (sumT_bound HK.out z0.length (Nat.le_refl _)).1; rw [List.take_of_length_le (Nat.le_refl _), HL.out] at this; omega)
    have HC := Lib.hid hc
    have HW := Lib.hid (fun j (hj : j < len0) => show wrongF z0 (j : Int) 1 a1 = 0 from (wrong_at).2.2.2.2 hrt (by omega) (by rw [HL.out]; omega) (by simp [inB]; omega))
    clear hrt hc
    go_enter Try.func4, Try.ntmps4
    go_wp2_with fail
    refine (rcheck _ _ _ z0 _ _ HR.out).mono ?_
    rw [HC.out]
    rintro e w' ⟨rfl, rfl⟩
    go_wp2
    go_loopw [5, 6] (fun s i wr => ∃ k : Nat, k ≤ len0 ∧ i = .int .i64 k ∧ (∃ N : Int, s = .int .i64 N ∧ Hid (Given z0 a1 k N)) ∧ Below w.heap.size w wr) (fun _ i _ => len0 - (intOf i).toNat)
    case atStart => exact ⟨0, by omega, rfl, ⟨0, rfl, given_0 _ _⟩, Below.refl _ _⟩
    case round =>
      obtain ⟨k, hk, rfl, ⟨N, rfl, ho⟩, hbr⟩ := hrel
      have HRr := Lib.hid (Fd.below HR.out hbr)
      obtain ⟨n0, n1⟩ := given_le (ho : Given z0 a1 k N) HK.out (by rw [HL.out]; exact hk) HT.out x0
      by_cases hlt : k < len0
      · obtain ⟨_, _, t0, t1⟩ := okFs_at HK.out k (by rw [HL.out]; exact hlt)
        have hs := share_div (zs := z0) (j := k) HT.out x0 (by omega)
        have hst := Lib.hid (given_s (ho : Given z0 a1 k N) (by rw [HL.out]; exact hlt) HT.out x0 (by omega))
        obtain ⟨n2, n3⟩ := given_le hst.out HK.out (by rw [HL.out]; omega) HT.out x0
        have s0 := hs.1
        clear hs
        have hsn : ¬ shareV z0 k a1 < 0 := by omega
        go_wp2_with fail
        refine (part' _ _ _ z0 _ _ _ HRr.out).mono ?_
        unfold Ans
        rw [HW.out k hlt, Int.toNat_natCast]
        simp only [if0, if_true]
        rintro e w1 ⟨rfl, hb1⟩
        go_wp2
        go_loopw [9] (fun i wk => ∃ j : Nat, j ≤ k ∧ i = .int .i64 j ∧ Below w.heap.size w wk) (fun i _ => k - (intOf i).toNat)
        case atStart => exact ⟨0, by omega, rfl, (by repeat (first | exact Below.refl _ _ | assumption | refine Below.drew ?_ | refine below_dN ?_ _ | refine Below.setCell ?_ (by first | omega | (simp; done) | (simp; omega)) _ | refine below_al ?_ (by first | omega | (simp; done) | (simp; omega)) _ | refine below_tr (by assumption) ?_ (by first | omega | (simp; done) | (simp; omega))))⟩
        case round =>
          obtain ⟨j, hj, rfl, hbk⟩ := hrel
          by_cases hjk : j < k
          · go_wp2_with fail
            refine (part' _ _ _ z0 _ _ _ (Fd.below HR.out hbk)).mono ?_
            unfold Ans
            rw [HW.out j (by omega), Int.toNat_natCast]
            simp only [if0, if_true]
            rintro e w2 ⟨rfl, hb2⟩
            have hB2 : Below w.heap.size w w2 := (by repeat (first | exact Below.refl _ _ | assumption | refine Below.drew ?_ | refine below_dN ?_ _ | refine Below.setCell ?_ (by first | omega | (simp; done) | (simp; omega)) _ | refine below_al ?_ (by first | omega | (simp; done) | (simp; omega)) _ | refine below_tr (by assumption) ?_ (by first | omega | (simp; done) | (simp; omega))))
            obtain ⟨_, _, hc'⟩ := Fd.below HR.out hB2
            obtain ⟨ad, rfl, hcell⟩ := hc' (by omega)
            have hc1 := (hcell j (by omega)).2
            have hc2 := (hcell k hlt).2
            have q1 : (0 : Int) ≤ (j : Int) := by omega
            have q2 : (j : Int) < (len0 : Int) := by omega
            have q3 : (0 : Int) ≤ (k : Int) := by omega
            have q4 : (k : Int) < (len0 : Int) := by omega
            clear hcell
            by_cases hgt : gt z0 j = gt z0 k
            · have heq : shareV z0 j a1 = shareV z0 k a1 := by unfold shareV; rw [hgt]
              rw [hgt] at hc1
              rw [heq]
              clear hgt heq
              go_wp2_with fail
              go_quiet (fail)
              go_wp2
              go_roundw
              case rel => exact ⟨j + 1, by omega, by go_num, (by repeat (first | exact Below.refl _ _ | assumption | refine Below.drew ?_ | refine below_dN ?_ _ | refine Below.setCell ?_ (by first | omega | (simp; done) | (simp; omega)) _ | refine below_al ?_ (by first | omega | (simp; done) | (simp; omega)) _ | refine below_tr (by assumption) ?_ (by first | omega | (simp; done) | (simp; omega))))⟩
              case measure => simp [intOf]; omega
            · have hne : (gt z0 j == gt z0 k) = false := by simpa using hgt
              go_wp2_with fail
              go_quiet (fail)
              go_wp2
              go_roundw
              case rel => exact ⟨j + 1, by omega, by go_num, (by repeat (first | exact Below.refl _ _ | assumption | refine Below.drew ?_ | refine below_dN ?_ _ | refine Below.setCell ?_ (by first | omega | (simp; done) | (simp; omega)) _ | refine below_al ?_ (by first | omega | (simp; done) | (simp; omega)) _ | refine below_tr (by assumption) ?_ (by first | omega | (simp; done) | (simp; omega))))⟩
              case measure => simp [intOf]; omega
          · go_wp2
            go_roundw
            case rel => exact ⟨k + 1, by omega, by go_num, ⟨_, rfl, hst.out⟩, hbk⟩
            case measure => simp [intOf]; omega
      · have hkn : k = len0 := by omega
        subst hkn
        have he := given_end (zs := z0) (by rw [HL.out]; exact (ho : Given z0 a1 k N)) (by rw [HL.out]; omega) HT.out
        rw [HL.out] at he
        go_wp2_with (first | (go_at_call 11; refine (alive _).mono ?_; rintro e w4 ⟨rfl, hb4⟩))
        go_ret
        exact ⟨rfl, (by repeat (first | exact Below.refl _ _ | assumption | refine Below.drew ?_ | refine below_dN ?_ _ | refine Below.setCell ?_ (by first | omega | (simp; done) | (simp; omega)) _ | refine below_al ?_ (by first | omega | (simp; done) | (simp; omega)) _ | refine below_tr (by assumption) ?_ (by first | omega | (simp; done) | (simp; omega))))⟩
  · go_enter Try.func4, Try.ntmps4
    go_wp2_with fail
    refine (rcheck _ _ _ z0 _ _ HR.out).mono ?_
    rintro e w' ⟨rfl, rfl⟩
    go_wp2_with (first | (go_at_call 11; refine (alive _).mono ?_; rintro e w4 ⟨rfl, hb4⟩))
    all_goals first
      | (go_ret; exact ⟨rfl, (by repeat (first | exact Below.refl _ _ | assumption | refine Below.drew ?_ | refine below_dN ?_ _ | refine Below.setCell ?_ (by first | omega | (simp; done) | (simp; omega)) _ | refine below_al ?_ (by first | omega | (simp; done) | (simp; omega)) _ | refine below_tr (by assumption) ?_ (by first | omega | (simp; done) | (simp; omega))))⟩)
      | (exfalso; apply hg; refine ⟨by first | assumption | (simpa using ‹(checkV z0 1 != 0) = false›), by omega, by omega⟩)
