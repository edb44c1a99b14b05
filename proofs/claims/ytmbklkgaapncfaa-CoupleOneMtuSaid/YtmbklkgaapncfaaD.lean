/- Contracts of layer 13's functions: shares. -/
import Derived.Test.YtmbklkgaapncfaaC
namespace Go.Proofs.Ytmbklkgaapncfaa.C
open Go.RowKit OpenStruct
set_option linter.unusedVariables false
set_option linter.unusedSimpArgs false
attribute [local go_sem high] max2_mx min2_mn max_two min_two
attribute [local go_sem ↓] Go.wp_at_zero Go.wp_at_succ
theorem max_three (ats : Array TypeId) (ty : TypeId) (a b c : Value) : Builtin.max_ ats ty #[a, b, c] = (Builtin.max2 a b >>= fun s => Builtin.max2 s c >>= fun r => pure r) := by simp only [Builtin.max_, List.foldlM_cons, List.foldlM_nil]
attribute [local go_sem high] max_three

def sumT (zs : List E32) : Int := (zs.map E32.f1).sum
def sumC (zs : List E32) : Int := (zs.map E32.f0).sum
theorem sumT_snoc (xs : List E32) (k : Nat) (h : k < xs.length) : sumT (xs.take (k + 1)) = sumT (xs.take k) + gt xs k := by
  rw [List.take_succ_eq_append_getElem h]
  unfold sumT gt
  rw [List.getD_eq_getElem?_getD, List.getElem?_eq_getElem h]
  simp only [List.map_append, List.sum_append, List.map_cons, List.map_nil, List.sum_cons, List.sum_nil, Option.getD_some, Int.add_zero]
theorem sumC_snoc (xs : List E32) (k : Nat) (h : k < xs.length) : sumC (xs.take (k + 1)) = sumC (xs.take k) + gc xs k := by
  rw [List.take_succ_eq_append_getElem h]
  unfold sumC gc
  rw [List.getD_eq_getElem?_getD, List.getElem?_eq_getElem h]
  simp only [List.map_append, List.sum_append, List.map_cons, List.map_nil, List.sum_cons, List.sum_nil, Option.getD_some, Int.add_zero]
theorem sumT_bound {zs : List E32} (h : okFs zs = true) (k : Nat) (hk : k ≤ zs.length) : (k : Int) ≤ sumT (zs.take k) ∧ sumT (zs.take k) ≤ k * 1073741824 := by
  induction k with
  | zero => simp [sumT]
  | succ k ih =>
    have h1 := ih (by omega)
    obtain ⟨_, _, h2, h3⟩ := okFs_at h k (by omega)
    rw [sumT_snoc zs k (by omega)]
    omega
theorem sumC_bound {zs : List E32} (h : okFs zs = true) (k : Nat) (hk : k ≤ zs.length) : (k : Int) ≤ sumC (zs.take k) ∧ sumC (zs.take k) ≤ k * 1073741824 := by
  induction k with
  | zero => simp [sumC]
  | succ k ih =>
    have h1 := ih (by omega)
    obtain ⟨h2, h3, _, _⟩ := okFs_at h k (by omega)
    rw [sumC_snoc zs k (by omega)]
    omega
/-- the path j's of x -/
def shareV (zs : List E32) (j : Nat) (x : Int) : Int := x * gt zs j / sumT zs
theorem mul_bound {x y : Int} (h0 : 0 ≤ x) (h1 : x ≤ 1073741824) (h2 : 1 ≤ y) (h3 : y ≤ 1073741824) : 0 ≤ x * y ∧ x * y ≤ 1152921504606846976 := by
  refine ⟨Int.mul_nonneg h0 (by omega), ?_⟩
  have := Int.mul_le_mul h1 h3 (by omega) (by omega)
  simpa using this
set_option maxHeartbeats 1000000 in
theorem share (A : Option Addr) (n c : Nat) (zs : List E32) (m : Int) (j : Nat) (x : Int) (w : World) (hr : Fd w A n zs) (hok : okFs zs = true) (hn8 : n ≤ 8) (hj : j < n) (hx0 : 0 ≤ x) (hx1 : x ≤ 1073741824) :
    Calls Try.prog 37 #[.agg #[.slice A n c, .int .i64 m], .int .i64 j, .int .i64 x] w fun e w' => e = .returned (.int .i64 (shareV zs j x)) ∧ Below w.heap.size w w' := by
  have hu32 := Try.underlying32
  have hu49 := Try.underlying49
  have HR := Lib.hid hr
  have HL := Lib.hid hr.1
  have HB := Lib.hid (fun k (hk : k ≤ n) => sumT_bound hok k (by rw [HL.out]; exact hk))
  obtain ⟨_, _, t0, t1⟩ := okFs_at hok j (by rw [HL.out]; exact hj)
  obtain ⟨b0, b1⟩ := mul_bound hx0 hx1 t0 t1
  have HD := Lib.hid (show shareV zs j x = x * gt zs j / sumT zs from rfl)
  have hall := HB.out n (Nat.le_refl _)
  rw [List.take_of_length_le (by rw [HL.out]; omega)] at hall
  obtain ⟨s0, s1⟩ := hall
  clear hr hok
  go_enter Try.func37, Try.ntmps37
  go_wp2
  go_loopw [7, 9, 13] (fun s _ i wr => ∃ k : Nat, k ≤ n ∧ i = .int .i64 k ∧ (∃ S : Int, s = .int .i64 S ∧ Hid (S = sumT (zs.take k))) ∧ Below (w.heap.size + 1) (w.alloc (.cells #[.slice A n c, .int .i64 m] 49)) wr) (fun _ _ i _ => n - (intOf i).toNat)
  case atStart => exact ⟨0, by omega, rfl, ⟨0, rfl, rfl⟩, Below.refl _ _⟩
  case round =>
    obtain ⟨k, hk, rfl, ⟨S, rfl, ho⟩, hbr⟩ := hrel
    have hbw : Below w.heap.size w wr := ((Below.refl _ _).alloc (Nat.le_refl _) _).trans (hbr.mono (by omega))
    have hz : w.heap.size < wr.heap.size := by have := hbr.size; simp at this; omega
    have hs := HB.out k hk
    rw [← ho.out] at hs
    obtain ⟨_, _, hc'⟩ := Fd.below HR.out hbw
    by_cases hlt : k < n
    · obtain ⟨ad, rfl, hcell⟩ := hc' (by omega)
      obtain ⟨hck, htk⟩ := hcell k hlt
      have hst := Lib.hid (sumT_snoc zs k (by rw [HL.out]; exact hlt))
      have hg := HB.out (k + 1) (by omega)
      rw [hst.out, ← ho.out] at hg
      clear hcell
      go_wp2
      go_roundw
      case rel => exact ⟨k + 1, by omega, by go_num, ⟨_, rfl, by show _ = sumT _; rw [hst.out, ho.out]⟩, (by repeat (first | exact Below.refl _ _ | assumption | refine Below.drew ?_ | refine below_dN ?_ _ | refine Below.setCell ?_ (by first | omega | (simp; done) | (simp; omega)) _ | refine below_al ?_ (by first | omega | (simp; done) | (simp; omega)) _ | refine below_tr (by assumption) ?_ (by first | omega | (simp; done) | (simp; omega))))⟩
      case measure => simp [intOf]; omega
    · obtain ⟨ad, rfl, hcell⟩ := hc' (by omega)
      obtain ⟨hck, htk⟩ := hcell j hj
      have hkn : k = n := by omega
      have hfin : S = sumT zs := by rw [ho.out, List.take_of_length_le (by rw [HL.out]; omega)]
      have q0 : wr.cell? ⟨w.heap.size, 0, none⟩ = some (.slice (some ad) n c) := by
        rw [hbr.cell (p := ⟨w.heap.size, 0, none⟩) (by simp)]; simp [go_sem]
      have hz0 : (S == 0) = false := by simp; omega
      have hz0' : ¬ S = 0 := by omega
      clear hcell
      subst hfin
      go_wp2
      go_ret
      exact ⟨ret_int HD.out.symm, (by repeat (first | exact Below.refl _ _ | assumption | refine Below.drew ?_ | refine below_dN ?_ _ | refine Below.setCell ?_ (by first | omega | (simp; done) | (simp; omega)) _ | refine below_al ?_ (by first | omega | (simp; done) | (simp; omega)) _ | refine below_tr (by assumption) ?_ (by first | omega | (simp; done) | (simp; omega))))⟩

set_option maxHeartbeats 1000000 in
theorem rshare (A : Option Addr) (n c : Nat) (zs : List E32) (j : Nat) (x : Int) (w : World) (hr : Fd w A n zs) (hok : okFs zs = true) (hn8 : n ≤ 8) (hj : j < n) (hx0 : 0 ≤ x) (hx1 : x ≤ 1073741824) :
    Calls Try.prog 26 #[.slice A n c, .int .i64 j, .int .i64 x] w fun e w' => e = .returned (.int .i64 (shareV zs j x)) ∧ w = w' := by
  have hu32 := Try.underlying32
  have HR := Lib.hid hr
  have HL := Lib.hid hr.1
  have HB := Lib.hid (fun k (hk : k ≤ n) => sumT_bound hok k (by rw [HL.out]; exact hk))
  obtain ⟨_, _, t0, t1⟩ := okFs_at hok j (by rw [HL.out]; exact hj)
  obtain ⟨b0, b1⟩ := mul_bound hx0 hx1 t0 t1
  have HD := Lib.hid (show shareV zs j x = x * gt zs j / sumT zs from rfl)
  have hall := HB.out n (Nat.le_refl _)
  rw [List.take_of_length_le (by rw [HL.out]; omega)] at hall
  obtain ⟨s0, s1⟩ := hall
  clear hr hok
  go_enter Try.func26, Try.ntmps26
  go_wp2
  go_loop [7, 8] (fun s i => ∃ k : Nat, k ≤ n ∧ i = .int .i64 k ∧ (∃ S : Int, s = .int .i64 S ∧ Hid (S = sumT (zs.take k)))) (fun _ i => n - (intOf i).toNat)
  case atStart => exact ⟨0, by omega, rfl, ⟨0, rfl, rfl⟩⟩
  case round =>
    obtain ⟨k, hk, rfl, ⟨S, rfl, ho⟩⟩ := hrel
    have hs := HB.out k hk
    rw [← ho.out] at hs
    obtain ⟨_, _, hc'⟩ := HR.out
    by_cases hlt : k < n
    · obtain ⟨ad, rfl, hcell⟩ := hc' (by omega)
      obtain ⟨hck, htk⟩ := hcell k hlt
      have hst := Lib.hid (sumT_snoc zs k (by rw [HL.out]; exact hlt))
      have hg := HB.out (k + 1) (by omega)
      rw [hst.out, ← ho.out] at hg
      clear hcell
      go_wp2
      go_round
      case rel => exact ⟨k + 1, by omega, by go_num, ⟨_, rfl, by show _ = sumT _; rw [hst.out, ho.out]⟩⟩
      case measure => simp [intOf]; omega
    · obtain ⟨ad, rfl, hcell⟩ := hc' (by omega)
      obtain ⟨hck, htk⟩ := hcell j hj
      have hfin : S = sumT zs := by rw [ho.out, List.take_of_length_le (by rw [HL.out]; omega)]
      have hz0 : (S == 0) = false := by simp; omega
      have hz0' : ¬ S = 0 := by omega
      clear hcell
      subst hfin
      go_wp2
      go_ret
      exact ⟨ret_int HD.out.symm, rfl⟩

/-! ### why there is no answer -/
def wrongF (zs : List E32) (i m x : Int) : Int := if rightF zs m = true then (if inB i 0 (zs.length - 1) = true then (if inB x 0 1073741824 = true then 0 else 1) else 5) else 130
theorem wrong_ok {zs : List E32} {i m x : Int} (h : wrongF zs i m x = 0) : okFs zs = true ∧ zs.length ≤ 8 ∧ 1 ≤ m ∧ m ≤ 65536 ∧ (∃ j : Nat, i = j ∧ j < zs.length) ∧ 0 ≤ x ∧ x ≤ 1073741824 := by
  unfold wrongF at h
  split at h
  · split at h
    · split at h
      · rename_i h1 h2 h3
        simp [rightF, inB] at h1 h2 h3
        exact ⟨h1.2.2, by omega, by omega, by omega, ⟨i.toNat, by omega, by omega⟩, by omega, by omega⟩
      · simp at h
    · simp at h
  · simp at h
theorem wrong_at {zs : List E32} {i m x : Int} : (rightF zs m = false → wrongF zs i m x = 130) ∧ (rightF zs m = true → i < 0 → wrongF zs i m x = 5) ∧ (rightF zs m = true → (zs.length : Int) ≤ i → wrongF zs i m x = 5) ∧
    (rightF zs m = true → ¬ i < 0 → ¬ (zs.length : Int) ≤ i → inB x 0 1073741824 = false → wrongF zs i m x = 1) ∧ (rightF zs m = true → ¬ i < 0 → ¬ (zs.length : Int) ≤ i → inB x 0 1073741824 = true → wrongF zs i m x = 0) := by
  unfold wrongF
  refine ⟨fun h => by simp [h], fun h g => ?_, fun h g => ?_, fun h g1 g2 g3 => ?_, fun h g1 g2 g3 => ?_⟩
  · rw [if_pos h, if_neg (by simp [inB]; omega)]
  · rw [if_pos h, if_neg (by simp [inB]; omega)]
  · rw [if_pos h, if_pos (by simp [inB]; omega), g3]; rfl
  · rw [if_pos h, if_pos (by simp [inB]; omega), g3]; rfl
theorem checkV_0 {zs : List E32} {m : Int} (h : ¬ checkV zs m = 0) : rightF zs m = false := by
  unfold checkV at h
  cases hh : rightF zs m
  · rfl
  · rw [hh] at h; exact absurd rfl h
theorem checkV_1 {zs : List E32} {m : Int} (h : checkV zs m = 0) : rightF zs m = true := by
  unfold checkV at h
  cases hh : rightF zs m
  · rw [hh] at h; exact absurd h (by decide)
  · rfl
set_option maxHeartbeats 1000000 in
theorem wrong (A : Option Addr) (n c : Nat) (zs : List E32) (i m x : Int) (w : World) (hr : Fd w A n zs) :
    Calls Try.prog 25 #[.slice A n c, .int .i64 i, .int .i64 m, .int .i64 x] w fun e w' => e = .returned (.int .i64 (wrongF zs i m x)) ∧ w = w' := by
  have HL := Lib.hid hr.1
  have hn := hr.2.1
  obtain ⟨p1, p2, p3, p4, p5⟩ := wrong_at (zs := zs) (i := i) (m := m) (x := x)
  rw [hr.1] at p3 p4 p5
  have P1 := Lib.hid p1
  have P2 := Lib.hid p2
  have P3 := Lib.hid p3
  have P4 := Lib.hid p4
  have P5 := Lib.hid p5
  clear p1 p2 p3 p4 p5
  go_enter Try.func25, Try.ntmps25
  go_wp2_with (first | (go_at_call 12; refine (rcheck _ _ _ zs _ _ hr).mono ?_; rintro e w' ⟨rfl, rfl⟩) | (go_at_call 36; refine (rbytes _ _).mono ?_; rintro e w' ⟨rfl, rfl⟩))
  all_goals
    go_ret
    refine ⟨ret_int ?_, rfl⟩
  all_goals
    clear hr HL
    first
      | exact (P1.out (checkV_0 (by simpa using ‹(checkV zs m != 0) = true›))).symm
      | (have hc := checkV_1 (show checkV zs m = 0 by simpa using ‹(checkV zs m != 0) = false›)
         first
           | exact (P2.out hc (by omega)).symm
           | exact (P3.out hc (by omega)).symm
           | exact (P4.out hc (by omega) (by omega) (by simpa using ‹(!inB x 0 1073741824) = true›)).symm
           | exact (P5.out hc (by omega) (by omega) (by simpa using ‹(!inB x 0 1073741824) = false›)).symm)

/-- where there is an answer -/
def if0 (e r : Int) : Int := if e = 0 then r else 0
def Ans (zs : List E32) (i m x r : Int) (w : World) : Ending → World → Prop := fun e w' => e = .returned (.tuple #[.int .i64 (if0 (wrongF zs i m x) r), .int .i64 (wrongF zs i m x)]) ∧ Below w.heap.size w w'
set_option maxHeartbeats 1000000 in
theorem part (A : Option Addr) (n c : Nat) (zs : List E32) (m : Int) (j : Nat) (x : Int) (w : World) (hr : Fd w A n zs) (hok : okFs zs = true) (hn8 : n ≤ 8) (hj : j < n) (hm0 : 1 ≤ m) (hm1 : m ≤ 65536) (hx0 : 0 ≤ x) (hx1 : x ≤ 1073741824) :
    Calls Try.prog 28 #[.agg #[.slice A n c, .int .i64 m, .int .i64 j], .int .i64 x] w fun e w' => e = .returned (.int .i64 (shareV zs j x)) ∧ Below w.heap.size w w' := by
  have hu51 := Try.underlying51
  have hu49 := Try.underlying49
  have HR := Lib.hid hr
  have HK := Lib.hid hok
  have hmn : 0 ≤ mn x m ∧ mn x m ≤ 1073741824 := by rw [mn_def]; split <;> omega
  clear hr hok
  go_enter Try.func28, Try.ntmps28
  go_wp2_with (go_at_call 37; refine (share _ _ _ zs _ _ _ _ (Fd.below HR.out (by repeat (first | exact Below.refl _ _ | assumption | refine Below.drew ?_ | refine below_dN ?_ _ | refine Below.setCell ?_ (by first | omega | (simp; done) | (simp; omega)) _ | refine below_al ?_ (by first | omega | (simp; done) | (simp; omega)) _ | refine below_tr (by assumption) ?_ (by first | omega | (simp; done) | (simp; omega))))) HK.out hn8 hj hx0 hx1).mono ?_; rintro e w' ⟨rfl, hbn⟩)
  go_ret
  exact ⟨rfl, (by repeat (first | exact Below.refl _ _ | assumption | refine Below.drew ?_ | refine below_dN ?_ _ | refine Below.setCell ?_ (by first | omega | (simp; done) | (simp; omega)) _ | refine below_al ?_ (by first | omega | (simp; done) | (simp; omega)) _ | refine below_tr (by assumption) ?_ (by first | omega | (simp; done) | (simp; omega))))⟩
set_option maxHeartbeats 1000000 in
theorem slow (A : Option Addr) (n c : Nat) (zs : List E32) (m : Int) (j : Nat) (x : Int) (w : World) (hr : Fd w A n zs) (hok : okFs zs = true) (hn8 : n ≤ 8) (hj : j < n) (hm0 : 1 ≤ m) (hm1 : m ≤ 65536) (hx0 : 0 ≤ x) (hx1 : x ≤ 1073741824) :
    Calls Try.prog 30 #[.agg #[.slice A n c, .int .i64 m, .int .i64 j], .int .i64 x] w fun e w' => e = .returned (.int .i64 (shareV zs j (mn x m))) ∧ Below w.heap.size w w' := by
  have hu51 := Try.underlying51
  have hu49 := Try.underlying49
  have HR := Lib.hid hr
  have HK := Lib.hid hok
  have hmn : 0 ≤ mn x m ∧ mn x m ≤ 1073741824 := by rw [mn_def]; split <;> omega
  clear hr hok
  go_enter Try.func30, Try.ntmps30
  go_wp2_with (go_at_call 37; refine (share _ _ _ zs _ _ _ _ (Fd.below HR.out (by repeat (first | exact Below.refl _ _ | assumption | refine Below.drew ?_ | refine below_dN ?_ _ | refine Below.setCell ?_ (by first | omega | (simp; done) | (simp; omega)) _ | refine below_al ?_ (by first | omega | (simp; done) | (simp; omega)) _ | refine below_tr (by assumption) ?_ (by first | omega | (simp; done) | (simp; omega))))) HK.out hn8 hj hmn.1 hmn.2).mono ?_; rintro e w' ⟨rfl, hbn⟩)
  go_ret
  exact ⟨rfl, (by repeat (first | exact Below.refl _ _ | assumption | refine Below.drew ?_ | refine below_dN ?_ _ | refine Below.setCell ?_ (by first | omega | (simp; done) | (simp; omega)) _ | refine below_al ?_ (by first | omega | (simp; done) | (simp; omega)) _ | refine below_tr (by assumption) ?_ (by first | omega | (simp; done) | (simp; omega))))⟩
set_option maxHeartbeats 1000000 in
theorem avoid (A : Option Addr) (n c : Nat) (zs : List E32) (m : Int) (j : Nat) (x : Int) (w : World) (hr : Fd w A n zs) (hok : okFs zs = true) (hn8 : n ≤ 8) (hj : j < n) (hm0 : 1 ≤ m) (hm1 : m ≤ 65536) (hx0 : 0 ≤ x) (hx1 : x ≤ 1073741824) :
    Calls Try.prog 31 #[.agg #[.slice A n c, .int .i64 m, .int .i64 j], .int .i64 x] w fun e w' => e = .returned (.int .i64 (shareV zs j m)) ∧ Below w.heap.size w w' := by
  have hu51 := Try.underlying51
  have hu49 := Try.underlying49
  have HR := Lib.hid hr
  have HK := Lib.hid hok
  have hmn : 0 ≤ mn x m ∧ mn x m ≤ 1073741824 := by rw [mn_def]; split <;> omega
  clear hr hok
  go_enter Try.func31, Try.ntmps31
  go_wp2_with (go_at_call 37; refine (share _ _ _ zs _ _ _ _ (Fd.below HR.out (by repeat (first | exact Below.refl _ _ | assumption | refine Below.drew ?_ | refine below_dN ?_ _ | refine Below.setCell ?_ (by first | omega | (simp; done) | (simp; omega)) _ | refine below_al ?_ (by first | omega | (simp; done) | (simp; omega)) _ | refine below_tr (by assumption) ?_ (by first | omega | (simp; done) | (simp; omega))))) HK.out hn8 hj (by omega) (by omega)).mono ?_; rintro e w' ⟨rfl, hbn⟩)
  go_ret
  exact ⟨rfl, (by repeat (first | exact Below.refl _ _ | assumption | refine Below.drew ?_ | refine below_dN ?_ _ | refine Below.setCell ?_ (by first | omega | (simp; done) | (simp; omega)) _ | refine below_al ?_ (by first | omega | (simp; done) | (simp; omega)) _ | refine below_tr (by assumption) ?_ (by first | omega | (simp; done) | (simp; omega))))⟩

/-- what is left of the window of path j behind a loss -/
def cutV (zs : List E32) (j : Nat) (m : Int) : Int := mx (mx (gc zs j - sumC zs / 2) (shareV zs j (4 * m))) m
set_option maxHeartbeats 2000000 in
theorem cut (A : Option Addr) (n c : Nat) (zs : List E32) (m : Int) (j : Nat) (x : Int) (w : World) (hr : Fd w A n zs) (hok : okFs zs = true) (hn8 : n ≤ 8) (hj : j < n) (hm0 : 1 ≤ m) (hm1 : m ≤ 65536) (hx0 : 0 ≤ x) (hx1 : x ≤ 1073741824) :
    Calls Try.prog 24 #[.agg #[.slice A n c, .int .i64 m, .int .i64 j], .int .i64 x] w fun e w' => e = .returned (.int .i64 (cutV zs j m)) ∧ Below w.heap.size w w' := by
  have hu32 := Try.underlying32
  have hu49 := Try.underlying49
  have hu51 := Try.underlying51
  have HR := Lib.hid hr
  have HK := Lib.hid hok
  have HL := Lib.hid hr.1
  have HB := Lib.hid (fun k (hk : k ≤ n) => sumC_bound hok k (by rw [HL.out]; exact hk))
  obtain ⟨g0, g1, _, _⟩ := okFs_at hok j (by rw [HL.out]; exact hj)
  have HD := Lib.hid (show cutV zs j m = mx (mx (gc zs j - sumC zs / 2) (shareV zs j (4 * m))) m from rfl)
  have hall := HB.out n (Nat.le_refl _)
  rw [List.take_of_length_le (by rw [HL.out]; omega)] at hall
  obtain ⟨s0, s1⟩ := hall
  clear hr hok
  go_enter Try.func24, Try.ntmps24
  go_wp2
  go_loopw [5, 7, 12] (fun s _ i wr => ∃ k : Nat, k ≤ n ∧ i = .int .i64 k ∧ (∃ S : Int, s = .int .i64 S ∧ Hid (S = sumC (zs.take k))) ∧ Below (w.heap.size + 1) (w.alloc (.cells #[.slice A n c, .int .i64 m, .int .i64 j] 51)) wr) (fun _ _ i _ => n - (intOf i).toNat)
  case atStart => exact ⟨0, by omega, rfl, ⟨0, rfl, rfl⟩, Below.refl _ _⟩
  case round =>
    obtain ⟨k, hk, rfl, ⟨S, rfl, ho⟩, hbr⟩ := hrel
    have hbw : Below w.heap.size w wr := ((Below.refl _ _).alloc (Nat.le_refl _) _).trans (hbr.mono (by omega))
    have hz : w.heap.size < wr.heap.size := by have := hbr.size; simp at this; omega
    have hs := HB.out k hk
    rw [← ho.out] at hs
    obtain ⟨_, _, hc'⟩ := Fd.below HR.out hbw
    by_cases hlt : k < n
    · obtain ⟨ad, rfl, hcell⟩ := hc' (by omega)
      obtain ⟨hck, htk⟩ := hcell k hlt
      have hst := Lib.hid (sumC_snoc zs k (by rw [HL.out]; exact hlt))
      have hg := HB.out (k + 1) (by omega)
      rw [hst.out, ← ho.out] at hg
      clear hcell
      go_wp2
      go_roundw
      case rel => exact ⟨k + 1, by omega, by go_num, ⟨_, rfl, by show _ = sumC _; rw [hst.out, ho.out]⟩, (by repeat (first | exact Below.refl _ _ | assumption | refine Below.drew ?_ | refine below_dN ?_ _ | refine Below.setCell ?_ (by first | omega | (simp; done) | (simp; omega)) _ | refine below_al ?_ (by first | omega | (simp; done) | (simp; omega)) _ | refine below_tr (by assumption) ?_ (by first | omega | (simp; done) | (simp; omega))))⟩
      case measure => simp [intOf]; omega
    · have hRw := Fd.below HR.out hbw
      have HRW := Lib.hid hRw
      obtain ⟨ad, rfl, hcell⟩ := hc' (by omega)
      obtain ⟨hck, htk⟩ := hcell j hj
      have hkn : k = n := by omega
      have hfin : S = sumC zs := by rw [ho.out, List.take_of_length_le (by rw [HL.out]; omega)]
      have q0 : wr.cell? ⟨w.heap.size, 0, none⟩ = some (.slice (some ad) n c) := by
        rw [hbr.cell (p := ⟨w.heap.size, 0, none⟩) (by simp)]; simp [go_sem]
      have q1 : wr.cell? ⟨w.heap.size, 1, none⟩ = some (.int .i64 m) := by
        rw [hbr.cell (p := ⟨w.heap.size, 1, none⟩) (by simp)]; simp [go_sem]
      have q2 : wr.cell? ⟨w.heap.size, 2, none⟩ = some (.int .i64 j) := by
        rw [hbr.cell (p := ⟨w.heap.size, 2, none⟩) (by simp)]; simp [go_sem]
      subst hfin
      have hw0 : IntKind.i64.wrap ((sumC zs).tdiv 2) = sumC zs / 2 := by rw [Int.tdiv_eq_ediv_of_nonneg (by omega), IntKind.wrap_i64]; omega
      have hw1 : IntKind.i64.wrap (gc zs j - sumC zs / 2) = gc zs j - sumC zs / 2 := by rw [IntKind.wrap_i64]; omega
      have hw2 : IntKind.i64.wrap (4 * m) = 4 * m := by rw [IntKind.wrap_i64]; omega
      have hj0 : (0 : Int) ≤ (j : Int) := by omega
      have hj1 : (j : Int) < (n : Int) := by omega
      have hk3' := World.block_lt_of_cell? wr _ hck
      have hk3 : ad.block < wr.heap.size := by have := hk3'; rwa [block_add] at this
      clear hcell hRw
      go_wp2_with fail
      go_region_held3 (fun w' => Below wr.heap.size wr w' ∧ ∀ a : Addr, a.block < wr.heap.size → w'.cell? a = wr.cell? a) (first | exact keep0 _ | assumption | exact keepB (by repeat (first | exact Below.refl _ _ | assumption | refine Below.drew ?_ | refine below_dN ?_ _ | refine Below.setCell ?_ (by first | omega | (simp; done) | (simp; omega)) _ | refine below_al ?_ (by first | omega | (simp; done) | (simp; omega)) _ | refine below_tr (by assumption) ?_ (by first | omega | (simp; done) | (simp; omega)))) | exact keep1 (by assumption) (by first | assumption | exact (Below.refl _ _).drew | exact And.left (by assumption)) (by first | omega | (simp; done) | (simp; omega))) (first | (go_at_call 37; refine (share _ _ _ zs _ _ _ _ (Fd.below HRW.out (by first | assumption | exact (Below.refl _ _).drew | exact And.left (by assumption))) HK.out hn8 hj (by omega) (by omega)).mono ?_; rintro e w' ⟨rfl, hbn⟩))
      go_wp2
      go_ret
      exact ⟨ret_int (by rw [HD.out]), hbw.trans (Below.mono (And.left ‹Below wr.heap.size wr _ ∧ _›) hbw.size)⟩
