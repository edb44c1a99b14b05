/- Contracts of layer 14's functions. -/
import Derived.Test.YtbcmgchclkjgeaaK
namespace Go.Proofs.Ytbcmgchclkjgeaa.C
open Go.RowKit
set_option linter.unusedVariables false

def inB (x low high : Int) : Bool := decide (low ≤ x ∧ x ≤ high)
theorem inB_t {x low high : Int} (h : inB x low high = true) : low ≤ x ∧ x ≤ high := by simpa [inB] using h
theorem inB_f {x low high : Int} (h : inB x low high = false) : ¬ (low ≤ x ∧ x ≤ high) := by simpa [inB] using h
def mayB (b p m : Int) : Bool := inB b 1 1073741824 && (inB p 1 8 && inB m 100 1500)
theorem ret_b {a b : Bool} (h : a = b) : Ending.returned (.bool a) = .returned (.bool b) := by rw [h]
set_option maxHeartbeats 400000 in
theorem within (x low high : Int) (w : World) :
    Calls Try.prog 26 #[.int .i64 x, .int .i64 low, .int .i64 high] w fun e w' => e = .returned (.bool (inB x low high)) ∧ w = w' := by
  go_enter Try.func26, Try.ntmps26
  go_wp2
  all_goals
    go_ret
    exact ⟨ret_b (by simp [inB]; omega), rfl⟩
set_option maxHeartbeats 400000 in
theorem may (b p m : Int) (w : World) :
    Calls Try.prog 22 #[.agg #[.int .i64 b, .int .i64 p, .int .i64 m]] w fun e w' => e = .returned (.bool (mayB b p m)) ∧ Below w.heap.size w w' := by
  have hu23 := Try.underlying23
  go_enter Try.func22, Try.ntmps22
  go_wp2_with (go_at_call 26; refine (within _ _ _ _).mono ?_; rintro e w' ⟨rfl, rfl⟩)
  all_goals
    go_ret
    exact ⟨ret_b (by simp [mayB, *]), (Below.refl _ _).alloc (Nat.le_refl _) _⟩

/-- the least whole number that is as great as n / p -/
def ceilB (n p : Int) : Int := (n + p - 1) / p
set_option maxHeartbeats 400000 in
theorem share (n p : Int) (w : World) (hn0 : 0 ≤ n) (hn : n ≤ 1073741824) (hp0 : 1 ≤ p) (hp : p ≤ 8) :
    Calls Try.prog 23 #[.int .i64 n, .int .i64 p] w fun e w' => e = .returned (.int .i64 (ceilB n p)) ∧ w = w' := by
  have h0 : (p == 0) = false := by simp; omega
  go_enter Try.func23, Try.ntmps23
  go_wp2
  go_ret
  exact ⟨rfl, rfl⟩
set_option maxHeartbeats 400000 in
theorem pred (n : Int) (w : World) :
    Calls Try.prog 29 #[.int .i64 n] w fun e w' => e = .returned (.bool (!inB n 0 1073741824)) ∧ w = w' := by
  go_enter Try.func29, Try.ntmps29
  go_wp2_with (go_at_call 26; refine (within _ _ _ _).mono ?_; rintro e w' ⟨rfl, rfl⟩)
  go_ret
  exact ⟨rfl, rfl⟩
/-- the place of the first number that is out of bounds; below 0: there is none -/
def okAll (xs : List Int) : Bool := xs.all fun x => inB x 0 1073741824
def idxR (xs : List Int) (r : Int) : Prop := if okAll xs = true then r = -1 else 0 ≤ r
theorem okAll_snoc (xs : List Int) (k : Nat) (h : k < xs.length) : okAll (xs.take (k + 1)) = (okAll (xs.take k) && inB (rdI xs k) 0 1073741824) := by
  rw [List.take_succ_eq_append_getElem h]
  unfold okAll rdI
  rw [List.all_append, List.getD_eq_getElem?_getD, List.getElem?_eq_getElem h]
  simp
theorem okAll_not (xs : List Int) (k : Nat) (h : k < xs.length) (hk : inB (rdI xs k) 0 1073741824 = false) : okAll xs = false := by
  unfold okAll
  rw [List.all_eq_false]
  refine ⟨xs[k], List.getElem_mem h, ?_⟩
  unfold rdI at hk
  rw [List.getD_eq_getElem?_getD, List.getElem?_eq_getElem h] at hk
  simpa using hk
set_option maxHeartbeats 400000 in
theorem index (A : Option Addr) (n c : Nat) (xs : List Int) (w : World) (hr : Rd .i64 w A n xs) :
    Calls Try.prog 31 #[.slice A n c, .func (.func 29) #[] #[]] w fun e w' => (∃ r, e = .returned (.int .i64 r) ∧ idxR xs r) ∧ w = w' := by
  obtain ⟨hl, hn, hc⟩ := hr
  have HL := Lib.hid hl
  have HC := Lib.hid hc
  clear hl hc
  go_enter Try.func31, Try.ntmps31
  go_wp2
  go_loop [5, 8] (fun _ i => ∃ k : Nat, k ≤ n ∧ i = .int .i64 k ∧ Hid (okAll (xs.take k) = true)) (fun _ i => n - (intOf i).toNat)
  case atStart => exact ⟨0, by omega, rfl, rfl⟩
  case round =>
    obtain ⟨k, hk, rfl, ho⟩ := hrel
    by_cases hlt : k < n
    · obtain ⟨ad, rfl, hcell⟩ := HC.out (by omega)
      have hck := hcell k hlt
      have hst := Lib.hid (okAll_snoc xs k (by rw [HL.out]; exact hlt))
      have hnt := Lib.hid (okAll_not xs k (by rw [HL.out]; exact hlt))
      clear hcell
      go_wp2_with (go_at_call 29; refine (pred _ _).mono ?_; rintro e w' ⟨rfl, rfl⟩)
      · go_ret
        exact ⟨⟨_, rfl, by unfold idxR; rw [if_neg (by rw [hnt.out (by simpa using ‹(!inB (rdI xs k) 0 1073741824) = true›)]; simp)]; omega⟩, rfl⟩
      · go_round
        case rel => exact ⟨k + 1, by omega, by go_num, by show okAll _ = true; rw [hst.out, ho.out]; simpa using ‹(!inB (rdI xs k) 0 1073741824) = false›⟩
        case measure => simp [intOf]; omega
    · go_wp2
      go_ret
      exact ⟨⟨_, rfl, by unfold idxR; rw [if_pos (by have := ho.out; rwa [List.take_of_length_le (by rw [HL.out]; omega)] at this)]⟩, rfl⟩
set_option maxHeartbeats 400000 in
theorem contains (A : Option Addr) (n c : Nat) (xs : List Int) (w : World) (hr : Rd .i64 w A n xs) :
    Calls Try.prog 28 #[.slice A n c, .func (.func 29) #[] #[]] w fun e w' => e = .returned (.bool (!okAll xs)) ∧ w = w' := by
  go_enter Try.func28, Try.ntmps28
  go_wp2_with (go_at_call 31; refine (index _ _ _ _ _ hr).mono ?_; rintro e w' ⟨⟨r, rfl, hx⟩, rfl⟩)
  go_ret
  refine ⟨ret_b ?_, rfl⟩
  unfold idxR at hx
  cases h : okAll xs
  · rw [h] at hx; simp at hx; simpa using hx
  · rw [h] at hx; simp at hx; subst hx; rfl

def checkF (b p m : Int) (xs : List Int) : Int := if mayB b p m = true then (if (xs.length : Int) = p ∧ okAll xs = true then 0 else 1) else 140
set_option maxHeartbeats 400000 in
theorem check (b p m : Int) (A : Option Addr) (n c : Nat) (xs : List Int) (w : World) (hr : Rd .i64 w A n xs) :
    Calls Try.prog 18 #[.agg #[.int .i64 b, .int .i64 p, .int .i64 m], .slice A n c] w fun e w' => e = .returned (.int .i64 (checkF b p m xs)) ∧ Below w.heap.size w w' := by
  have hu23 := Try.underlying23
  have HR := Lib.hid hr
  have HL := Lib.hid hr.1
  clear hr
  go_enter Try.func18, Try.ntmps18
  go_wp2_with fail
  refine (may _ _ _ _).mono ?_
  rintro e w1 ⟨rfl, hb1⟩
  obtain ⟨hc1, hf1⟩ := bcell hb1
  go_wp2_with fail
  · go_ret
    exact ⟨ret_int (by unfold checkF; rw [if_neg (by simpa using ‹(!mayB b p m) = true›)]), ((Below.refl _ _).alloc (Nat.le_refl _) _).trans (hb1.mono (by simp))⟩
  · refine (contains _ _ _ _ _ (Rd.below HR.out (((Below.refl _ _).alloc (Nat.le_refl _) _).trans (hb1.mono (by simp))))).mono ?_
    rintro e w2 ⟨rfl, rfl⟩
    go_wp2
    all_goals go_ret
    · exact ⟨ret_int (by unfold checkF; rw [if_pos (by simpa using ‹(!mayB b p m) = false›), if_neg (by rintro ⟨_, h⟩; simp_all)]), ((Below.refl _ _).alloc (Nat.le_refl _) _).trans (hb1.mono (by simp))⟩
    · exact ⟨ret_int (by unfold checkF; rw [if_pos (by simpa using ‹(!mayB b p m) = false›), if_pos ⟨by rw [HL.out]; assumption, by simpa using ‹(!okAll xs) = false›⟩]), ((Below.refl _ _).alloc (Nat.le_refl _) _).trans (hb1.mono (by simp))⟩
  · go_ret
    exact ⟨ret_int (by unfold checkF; rw [if_pos (by simpa using ‹(!mayB b p m) = false›), if_neg (by rw [HL.out]; exact fun h => ‹¬ _› h.1)]), ((Below.refl _ _).alloc (Nat.le_refl _) _).trans (hb1.mono (by simp))⟩
