/- Total, Same, what is known of awake. -/
import Derived.Test.YtbcmgchclkjgeaaF
namespace Go.Proofs.Ytbcmgchclkjgeaa.C
open Go.RowKit
set_option linter.unusedVariables false
set_option linter.unusedSimpArgs false
attribute [local go_sem high] max2_mx min2_mn max_two min_two
attribute [local go_sem ↓] Go.wp_at_zero Go.wp_at_succ

def sumF (xs : List Int) : Int := xs.foldl (· + ·) 0
theorem sumF_snoc (xs : List Int) (k : Nat) (h : k < xs.length) : sumF (xs.take (k + 1)) = sumF (xs.take k) + rdI xs k := by
  rw [List.take_succ_eq_append_getElem h]
  unfold sumF rdI
  rw [List.foldl_append, List.getD_eq_getElem?_getD, List.getElem?_eq_getElem h]
  rfl
theorem okAll_take (xs : List Int) (k : Nat) (h : okAll (xs.take k) = true) (hk : k < xs.length) (hi : inB (rdI xs k) 0 1073741824 = true) : okAll (xs.take (k + 1)) = true := by
  rw [okAll_snoc xs k hk, h, hi]; rfl
theorem sum_range (k : Nat) : ∀ xs : List Int, okAll (xs.take k) = true → k ≤ xs.length → 0 ≤ sumF (xs.take k) ∧ sumF (xs.take k) ≤ 1073741824 * k := by
  induction k with
  | zero => intro xs _ _; simp [sumF]
  | succ k ih =>
    intro xs h hk
    rw [okAll_snoc xs k (by omega)] at h
    simp only [Bool.and_eq_true] at h
    have := ih xs h.1 (by omega)
    have hb := inB_t h.2
    rw [sumF_snoc xs k (by omega)]
    omega
/-- what both tell -/
def totalE (xs : List Int) : Int := if xs.length ≤ 8 ∧ okAll xs = true then 0 else 1
def totalF (xs : List Int) : Int := if xs.length ≤ 8 ∧ okAll xs = true then sumF xs else 0
theorem total_bad {xs : List Int} (h : ¬ (xs.length ≤ 8 ∧ okAll xs = true)) : totalE xs = 1 ∧ totalF xs = 0 := by unfold totalE totalF; rw [if_neg h, if_neg h]; exact ⟨rfl, rfl⟩
theorem total_good {xs : List Int} (h : xs.length ≤ 8 ∧ okAll xs = true) : totalE xs = 0 ∧ totalF xs = sumF xs := by unfold totalE totalF; rw [if_pos h, if_pos h]; exact ⟨rfl, rfl⟩
theorem ret_2 {a b : Int} {a' b' : Int} (h : a = a') (h' : b = b') : Ending.returned (.tuple #[.int .i64 a, .int .i64 b]) = .returned (.tuple #[.int .i64 a', .int .i64 b']) := by rw [h, h']

set_option maxHeartbeats 1000000 in
theorem total (A : Option Addr) (n c : Nat) (xs : List Int) (w : World) (hr : Rd .i64 w A n xs) :
    Calls Try.prog 15 #[.slice A n c] w fun e w' => e = .returned (.tuple #[.int .i64 (totalF xs), .int .i64 (totalE xs)]) ∧ w = w' := by
  obtain ⟨hl, hn, hc⟩ := hr
  have HL := Lib.hid hl
  have HC := Lib.hid hc
  clear hl hc
  by_cases h8 : n ≤ 8
  · go_enter Try.func15, Try.ntmps15
    go_wp2
    go_loop [4, 6, 12] (fun v _ i => ∃ k : Nat, k ≤ n ∧ i = .int .i64 k ∧ v = .int .i64 (sumF (xs.take k)) ∧ Hid (okAll (xs.take k) = true)) (fun _ _ i => n - (intOf i).toNat)
    case atStart => exact ⟨0, by omega, rfl, rfl, rfl⟩
    case round =>
      obtain ⟨k, hk, rfl, rfl, ho⟩ := hrel
      by_cases hlt : k < n
      · obtain ⟨ad, rfl, hcell⟩ := HC.out (by omega)
        have hck := hcell k hlt
        have hst := Lib.hid (sumF_snoc xs k (by rw [HL.out]; exact hlt))
        have hr := sum_range k xs ho.out (by rw [HL.out]; omega)
        clear hcell
        by_cases hi : inB (rdI xs k) 0 1073741824 = true
        · have hb := inB_t hi
          have HI := Lib.hid (okAll_take xs k ho.out (by rw [HL.out]; exact hlt) hi)
          go_wp2_with (go_at_call 26; refine (within _ _ _ _).mono ?_; rintro e w' ⟨rfl, rfl⟩)
          go_round
          case rel => exact ⟨k + 1, by omega, by go_num, by rw [hst.out], HI.out⟩
          case measure => simp [intOf]; omega
        · have hi' : inB (rdI xs k) 0 1073741824 = false := by simpa using hi
          have HN := Lib.hid (total_bad (xs := xs) (fun h => by have := okAll_not xs k (by rw [HL.out]; exact hlt) hi'; rw [this] at h; simp at h))
          clear hi
          go_wp2_with (go_at_call 26; refine (within _ _ _ _).mono ?_; rintro e w' ⟨rfl, rfl⟩)
          go_ret2
          exact ⟨ret_2 HN.out.2.symm HN.out.1.symm, rfl⟩
      · have HN := Lib.hid (total_good (xs := xs) ⟨by rw [HL.out]; omega, by have := ho.out; rwa [List.take_of_length_le (by rw [HL.out]; omega)] at this⟩)
        have HT := Lib.hid (show xs.take k = xs from List.take_of_length_le (by rw [HL.out]; omega))
        go_wp2
        go_ret2
        exact ⟨ret_2 (by rw [HT.out]; exact HN.out.2.symm) HN.out.1.symm, rfl⟩
  · have HN := Lib.hid (total_bad (xs := xs) (fun h => by rw [HL.out] at h; omega))
    go_enter Try.func15, Try.ntmps15
    go_wp2
    go_ret2
    exact ⟨ret_2 HN.out.2.symm HN.out.1.symm, rfl⟩
set_option maxHeartbeats 1000000 in
theorem rtotal (A : Option Addr) (n c : Nat) (xs : List Int) (w : World) (hr : Rd .i64 w A n xs) :
    Calls Try.prog 16 #[.slice A n c] w fun e w' => e = .returned (.tuple #[.int .i64 (totalF xs), .int .i64 (totalE xs)]) ∧ w = w' := by
  have HR := Lib.hid hr
  obtain ⟨hl, hn, hc⟩ := hr
  have HL := Lib.hid hl
  have HC := Lib.hid hc
  clear hl hc
  by_cases h8 : n ≤ 8
  · cases hok : okAll xs
    · have HN := Lib.hid (total_bad (xs := xs) (fun h => by rw [hok] at h; simp at h))
      go_enter Try.func16, Try.ntmps16
      go_wp2_with (go_at_call 25; refine (numbers _ _ _ _ _ HR.out).mono ?_; rintro e w' ⟨rfl, rfl⟩)
      go_ret2
      exact ⟨ret_2 HN.out.2.symm HN.out.1.symm, rfl⟩
    · have HN := Lib.hid (total_good (xs := xs) ⟨by rw [HL.out]; omega, hok⟩)
      go_enter Try.func16, Try.ntmps16
      go_wp2_with (go_at_call 25; refine (numbers _ _ _ _ _ HR.out).mono ?_; rintro e w' ⟨rfl, rfl⟩)
      have hok' : ∀ k, k ≤ xs.length → okAll (xs.take k) = true := fun k _ => by
        unfold okAll at hok ⊢; rw [List.all_eq_true] at hok ⊢; exact fun x hx => hok x (List.mem_of_mem_take hx)
      have HOK := Lib.hid hok'
      have HIN : Hid (∀ x ∈ xs, 0 ≤ x ∧ x ≤ 1073741824) := by
        show ∀ x ∈ xs, _
        unfold okAll at hok; rw [List.all_eq_true] at hok; exact fun x hx => inB_t (hok x hx)
      clear hok' hok
      go_loop [4, 5] (fun v i => ∃ k : Nat, k ≤ n ∧ i = .int .i64 k ∧ v = .int .i64 (sumF (xs.take k))) (fun _ i => n - (intOf i).toNat)
      case atStart => exact ⟨0, by omega, rfl, rfl⟩
      case round =>
        obtain ⟨k, hk, rfl, rfl⟩ := hrel
        by_cases hlt : k < n
        · obtain ⟨ad, rfl, hcell⟩ := HC.out (by omega)
          have hck := hcell k hlt
          have hst := Lib.hid (sumF_snoc xs k (by rw [HL.out]; exact hlt))
          have hr := sum_range k xs (HOK.out k (by rw [HL.out]; omega)) (by rw [HL.out]; omega)
          obtain ⟨x0, x1⟩ := rdI_mem xs (fun x => 0 ≤ x ∧ x ≤ 1073741824) (by decide) HIN.out k
          clear hcell
          go_wp2
          go_round
          case rel => exact ⟨k + 1, by omega, by go_num, by rw [hst.out]⟩
          case measure => simp [intOf]; omega
        · have HT := Lib.hid (show xs.take k = xs from List.take_of_length_le (by rw [HL.out]; omega))
          go_wp2
          go_ret2
          exact ⟨ret_2 (by rw [HT.out]; exact HN.out.2.symm) HN.out.1.symm, rfl⟩
  · have HN := Lib.hid (total_bad (xs := xs) (fun h => by rw [HL.out] at h; omega))
    go_enter Try.func16, Try.ntmps16
    go_wp2
    go_ret2
    exact ⟨ret_2 HN.out.2.symm HN.out.1.symm, rfl⟩

/-! ### Same -/
set_option maxHeartbeats 1000000 in
theorem same_eq (A B : Option Addr) (n c d : Nat) (xs : List Int) (w : World) (hr : Rd .i64 w A n xs) (hs : Rd .i64 w B n xs) :
    Calls Try.prog 17 #[.slice A n c, .slice B n d] w fun e w' => e = .returned (.bool true) ∧ Below w.heap.size w w' := by
  have HR := Lib.hid hr.2.2
  have HS := Lib.hid hs.2.2
  have hn := hr.2.1
  clear hr hs
  go_enter Try.func17, Try.ntmps17
  go_wp2
  go_loopw [5] (fun i wr => ∃ k : Nat, k ≤ n ∧ i = .int .i64 k ∧ ∃ m, wr = w.drewN m) (fun i _ => n - (intOf i).toNat)
  case atStart => exact ⟨0, by omega, rfl, 0, rfl⟩
  case round =>
    obtain ⟨k, hk, rfl, m, rfl⟩ := hrel
    by_cases hlt : k < n
    · obtain ⟨ad, rfl, hcell⟩ := HR.out (by omega)
      obtain ⟨bd, rfl, hcell2⟩ := HS.out (by omega)
      have hck := hcell k hlt
      have hck2 := hcell2 k hlt
      have hk4 : (0 : Int) ≤ (k : Int) := by omega
      have hk5 : (k : Int) < (n : Int) := by omega
      clear hcell hcell2
      go_wp2_with fail
      go_quiet (fail)
      go_wp2
      go_roundw
      case rel => exact ⟨k + 1, by omega, by go_num, _, rfl⟩
      case measure => simp [intOf]; omega
    · go_wp2
      go_ret
      exact ⟨rfl, below_drewN _ _ _⟩

/-! ### awake -/
set_option maxHeartbeats 1000000 in
theorem awake (w : World) : Calls Try.prog 9 #[] w fun e w' => e = .returned (.bool true) ∧ Below w.heap.size w w' := by
  have hu23 := Try.underlying23
  have hm : mayB 10000 3 1500 = true := by decide +kernel
  have hc : checkF 10000 3 1500 [0, 2500, 0] = 0 := by decide +kernel
  have hl : leftF 10000 3 6000 [0, 2500, 0] = [2000, 0, 2000] := by decide +kernel
  have hs : ceilB 10000 3 = 3334 := by decide +kernel
  have HC := Lib.hid hc
  have HL := Lib.hid hl
  clear hc hl
  go_enter Try.func9, Try.ntmps9
  go_wp2_with fail
  refine (pshare_ok _ _ _ _ hm).mono ?_
  rintro e w1 ⟨rfl, hb1⟩
  obtain ⟨hc1, hf1⟩ := bcell hb1
  have hz : w.heap.size < w1.heap.size := by have := hb1.size; simp at this; omega
  go_wp2_with fail
  refine (left_ok 10000 3 1500 6000 _ 3 3 [0, 2500, 0] _ (Rd_new w1 .i64 3 [0, 2500, 0] (by decide)) HC.out (by decide +kernel) (by decide) (by decide) (by decide) (by decide) (by decide) (by decide)).mono ?_
  rw [HL.out]
  rintro e w2 ⟨A, c, rfl, hrd, hb2⟩
  have HRD := Lib.hid hrd
  clear hrd
  go_wp2_with fail
  refine (same_eq _ _ 3 _ _ [2000, 0, 2000] _ (Rd.below HRD.out (by repeat (first | exact Below.refl _ _ | assumption | refine Below.drew ?_ | refine below_dN ?_ _ | refine Below.setCell ?_ (by first | omega | (simp; done) | (simp; omega)) _ | refine below_al ?_ (by first | omega | (simp; done) | (simp; omega)) _ | refine below_tr (by assumption) ?_ (by first | omega | (simp; done) | (simp; omega))))) (Rd_new w2 .i64 3 [2000, 0, 2000] (by decide))).mono ?_
  rintro e w3 ⟨rfl, hb3⟩
  go_wp2
  go_ret
  exact ⟨rfl, (by repeat (first | exact Below.refl _ _ | assumption | refine Below.drew ?_ | refine below_dN ?_ _ | refine Below.setCell ?_ (by first | omega | (simp; done) | (simp; omega)) _ | refine below_al ?_ (by first | omega | (simp; done) | (simp; omega)) _ | refine below_tr (by assumption) ?_ (by first | omega | (simp; done) | (simp; omega))))⟩

/-! ### SplitWhole -/
theorem whole_num (b p : Int) (b0 : 1 ≤ b) (b1 : b ≤ 1073741824) (p0 : 1 ≤ p) (p1 : p ≤ 8) : b ≤ ceilB b p * p ∧ ceilB b p * p < b + p := by
  unfold ceilB
  have h1 := Int.ediv_mul_le (b + p - 1) (show p ≠ 0 by omega)
  have h2 := Int.lt_ediv_add_one_mul_self (b + p - 1) (show 0 < p by omega)
  have h3 : ((b + p - 1) / p + 1) * p = (b + p - 1) / p * p + p := by rw [Int.add_mul, Int.one_mul]
  omega
set_option maxHeartbeats 1000000 in
theorem walk_SplitWhole (a0_0 a0_1 a0_2 : Int) (w : World) (w0_0 : (Lit.int .i64 a0_0).wf = true) (w0_1 : (Lit.int .i64 a0_1).wf = true) (w0_2 : (Lit.int .i64 a0_2).wf = true) :
    Calls Try.prog 3 #[.agg #[.int .i64 a0_0, .int .i64 a0_1, .int .i64 a0_2]] w fun e w' => e = .returned (.bool true) ∧ Below w.heap.size w w' := by
  have hu23 := Try.underlying23
  cases h : mayB a0_0 a0_1 a0_2
  · go_enter Try.func3, Try.ntmps3
    go_wp2_with fail
    refine (pshare_bad _ _ _ _ h).mono ?_
    rintro e w1 ⟨rfl, hb1⟩
    go_wp2_with (go_at_call 9; refine (awake _).mono ?_; rintro e w2 ⟨rfl, hb2⟩)
    go_ret
    exact ⟨rfl, (by repeat (first | exact Below.refl _ _ | assumption | refine Below.drew ?_ | refine below_dN ?_ _ | refine Below.setCell ?_ (by first | omega | (simp; done) | (simp; omega)) _ | refine below_al ?_ (by first | omega | (simp; done) | (simp; omega)) _ | refine below_tr (by assumption) ?_ (by first | omega | (simp; done) | (simp; omega))))⟩
  · have hb := h
    unfold mayB at hb
    simp only [Bool.and_eq_true] at hb
    obtain ⟨g1, g2, g3⟩ := hb
    obtain ⟨b0, b1⟩ := inB_t g1
    obtain ⟨p0, p1⟩ := inB_t g2
    have hn := whole_num _ _ b0 b1 p0 p1
    obtain ⟨n0, n1⟩ := hn
    have cr := ceil_range _ _ (by omega) b1 p0 p1
    have h5 : 0 ≤ ceilB a0_0 a0_1 * a0_1 := by omega
    clear g1 g2 g3
    go_enter Try.func3, Try.ntmps3
    go_wp2_with fail
    refine (pshare_ok _ _ _ _ h).mono ?_
    rintro e w1 ⟨rfl, hb1⟩
    obtain ⟨hc1, hf1⟩ := bcell hb1
    go_wp2_with fail
    refine (awake _).mono ?_
    rintro e w2 ⟨rfl, hb2⟩
    go_wp2
    go_ret
    exact ⟨rfl, (by repeat (first | exact Below.refl _ _ | assumption | refine Below.drew ?_ | refine below_dN ?_ _ | refine Below.setCell ?_ (by first | omega | (simp; done) | (simp; omega)) _ | refine below_al ?_ (by first | omega | (simp; done) | (simp; omega)) _ | refine below_tr (by assumption) ?_ (by first | omega | (simp; done) | (simp; omega))))⟩
