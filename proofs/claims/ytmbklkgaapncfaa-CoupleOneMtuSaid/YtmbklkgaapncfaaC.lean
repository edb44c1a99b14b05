/- Contracts of layer 13's functions: what may be. -/
import Derived.Test.YtmbklkgaapncfaaO
import Derived.Deep.QuietTactic
import Derived.Deep.RegionHeld3
import Derived.Deep.DrawnRows
import Derived.BigQuiet
namespace Go.Proofs.Ytmbklkgaapncfaa.C
open Go.RowKit OpenStruct
set_option linter.unusedVariables false
set_option linter.unusedSimpArgs false
attribute [local go_sem high] max2_mx min2_mn max_two min_two

def gc (zs : List E32) (j : Nat) : Int := (zs.getD j d32).f0
def gt (zs : List E32) (j : Nat) : Int := (zs.getD j d32).f1
/-- n flows lie at A -/
def Fd (w : World) (A : Option Addr) (n : Nat) (zs : List E32) : Prop :=
  zs.length = n ∧ n ≤ 9223372036854775807 ∧ (0 < n → ∃ ad, A = some ad ∧ ∀ j, j < n → w.cell? (ad.add (j * 2)) = some (.int .i64 (gc zs j)) ∧ w.cell? ⟨(ad.add (j * 2)).block, (ad.add (j * 2)).off + 1, none⟩ = some (.int .i64 (gt zs j)))
theorem Fd.of_row {w : World} {A : Option Addr} {n c : Nat} {zs : List E32} (h : Row32 w A n c zs) : Fd w A n zs :=
  ⟨h.1, h.2.2.1, fun hn => by
    obtain ⟨ad, rfl⟩ := h.2.2.2.2.1 hn
    exact ⟨ad, rfl, fun j hj => ⟨(h.2.2.2.2.2 ad rfl j hj).1, (h.2.2.2.2.2 ad rfl j hj).2.1⟩⟩⟩
theorem Fd.below {w w' : World} {A : Option Addr} {n : Nat} {zs : List E32} (h : Fd w A n zs) (hb : Below w.heap.size w w') : Fd w' A n zs :=
  ⟨h.1, h.2.1, fun hn => by
    obtain ⟨ad, e, hc⟩ := h.2.2 hn
    refine ⟨ad, e, fun j hj => ?_⟩
    obtain ⟨h1, h2⟩ := hc j hj
    rw [hb.cell (World.block_lt_of_cell? w _ h1), hb.cell (World.block_lt_of_cell? w _ h2)]
    exact ⟨h1, h2⟩⟩

def inB (x low high : Int) : Bool := decide (low ≤ x ∧ x ≤ high)
theorem inB_t {x low high : Int} (h : inB x low high = true) : low ≤ x ∧ x ≤ high := by simpa [inB] using h
theorem inB_f {x low high : Int} (h : inB x low high = false) : ¬ (low ≤ x ∧ x ≤ high) := by simpa [inB] using h
set_option maxHeartbeats 400000 in
theorem bytes (x : Int) (w : World) : Calls Try.prog 34 #[.int .i64 x] w fun e w' => e = .returned (.bool (inB x 0 1073741824)) ∧ w = w' := by
  go_enter Try.func34, Try.ntmps34
  go_wp2
  all_goals
    go_ret
    exact ⟨ret_bool (by simp [inB]; omega), rfl⟩
set_option maxHeartbeats 400000 in
theorem rbytes (x : Int) (w : World) : Calls Try.prog 36 #[.int .i64 x] w fun e w' => e = .returned (.bool (inB x 0 1073741824)) ∧ w = w' := by
  go_enter Try.func36, Try.ntmps36
  go_wp2
  all_goals
    go_ret
    exact ⟨ret_bool (by simp [inB]; omega), rfl⟩
set_option maxHeartbeats 400000 in
theorem window (x : Int) (w : World) : Calls Try.prog 27 #[.int .i64 x] w fun e w' => e = .returned (.bool (inB x 1 1073741824)) ∧ w = w' := by
  go_enter Try.func27, Try.ntmps27
  go_wp2
  all_goals
    go_ret
    exact ⟨ret_bool (by simp [inB]; omega), rfl⟩
set_option maxHeartbeats 400000 in
theorem npred (n : Int) (w : World) :
    Calls Try.prog 33 #[.int .i64 n] w fun e w' => e = .returned (.bool (!inB n 0 1073741824)) ∧ w = w' := by
  go_enter Try.func33, Try.ntmps33
  go_wp2_with (go_at_call 34; refine (bytes _ _).mono ?_; rintro e w' ⟨rfl, rfl⟩)
  go_ret
  exact ⟨rfl, rfl⟩
/-- a flow may be -/
def okF (c t : Int) : Bool := inB c 1 1073741824 && inB t 1 1073741824
set_option maxHeartbeats 1000000 in
theorem fpred (c t : Int) (w : World) :
    Calls Try.prog 39 #[.agg #[.int .i64 c, .int .i64 t]] w fun e w' => e = .returned (.bool (!okF c t)) ∧ Below w.heap.size w w' := by
  have hu32 := Try.underlying32
  go_enter Try.func39, Try.ntmps39
  go_wp2_with (go_at_call 34; refine (bytes _ _).mono ?_; rintro e w' ⟨rfl, rfl⟩)
  all_goals
    go_ret
    exact ⟨ret_bool (by rw [Bool.eq_iff_iff]; simp_all [inB, okF]; try omega), (by repeat (first | exact Below.refl _ _ | assumption | refine Below.drew ?_ | refine below_dN ?_ _ | refine Below.setCell ?_ (by first | omega | (simp; done) | (simp; omega)) _ | refine below_al ?_ (by first | omega | (simp; done) | (simp; omega)) _ | refine below_tr (by assumption) ?_ (by first | omega | (simp; done) | (simp; omega))))⟩

/-! ### rows of numbers, rows of flows -/
def okAll (xs : List Int) : Bool := xs.all fun x => inB x 0 1073741824
def idxR (b : Bool) (r : Int) : Prop := if b = true then r = -1 else 0 ≤ r
theorem okAll_snoc (xs : List Int) (k : Nat) (h : k < xs.length) : okAll (xs.take (k + 1)) = (okAll (xs.take k) && inB (rdI xs k) 0 1073741824) := by
  rw [List.take_succ_eq_append_getElem h]
  unfold okAll rdI
  rw [List.all_append, List.getD_eq_getElem?_getD, List.getElem?_eq_getElem h]
  simp
theorem okAll_not (xs : List Int) (k : Nat) (h : k < xs.length) (hk : inB (rdI xs k) 0 1073741824 = false) : okAll xs = false := by
  unfold okAll
  rw [List.all_eq_false]
  refine ⟨xs[k], List.getElem_mem h, ?_⟩
  unfold rdI at hk
  rw [List.getD_eq_getElem?_getD, List.getElem?_eq_getElem h] at hk
  simpa using hk
def okFs (zs : List E32) : Bool := zs.all fun z => okF z.f0 z.f1
theorem okFs_snoc (xs : List E32) (k : Nat) (h : k < xs.length) : okFs (xs.take (k + 1)) = (okFs (xs.take k) && okF (gc xs k) (gt xs k)) := by
  rw [List.take_succ_eq_append_getElem h]
  unfold okFs gc gt
  rw [List.all_append, List.getD_eq_getElem?_getD, List.getElem?_eq_getElem h]
  simp
theorem okFs_not (xs : List E32) (k : Nat) (h : k < xs.length) (hk : okF (gc xs k) (gt xs k) = false) : okFs xs = false := by
  unfold okFs
  rw [List.all_eq_false]
  refine ⟨xs[k], List.getElem_mem h, ?_⟩
  unfold gc gt at hk
  rw [List.getD_eq_getElem?_getD, List.getElem?_eq_getElem h] at hk
  simpa using hk
theorem okFs_at {zs : List E32} (h : okFs zs = true) (k : Nat) (hk : k < zs.length) : 1 ≤ gc zs k ∧ gc zs k ≤ 1073741824 ∧ 1 ≤ gt zs k ∧ gt zs k ≤ 1073741824 := by
  unfold okFs at h
  rw [List.all_eq_true] at h
  have := h zs[k] (List.getElem_mem hk)
  unfold gc gt
  rw [List.getD_eq_getElem?_getD, List.getElem?_eq_getElem hk]
  simp [okF, inB] at this
  simpa using by omega

set_option maxHeartbeats 400000 in
theorem nindex (A : Option Addr) (n c : Nat) (xs : List Int) (w : World) (hr : Rd .i64 w A n xs) :
    Calls Try.prog 40 #[.slice A n c, .func (.func 33) #[] #[]] w fun e w' => (∃ r, e = .returned (.int .i64 r) ∧ idxR (okAll xs) r) ∧ w = w' := by
  obtain ⟨hl, hn, hc⟩ := hr
  have HL := Lib.hid hl
  have HC := Lib.hid hc
  clear hl hc
  go_enter Try.func40, Try.ntmps40
  go_wp2
  go_loop [5, 8] (fun _ i => ∃ k : Nat, k ≤ n ∧ i = .int .i64 k ∧ Hid (okAll (xs.take k) = true)) (fun _ i => n - (intOf i).toNat)
  case atStart => exact ⟨0, by omega, rfl, rfl⟩
  case round =>
    obtain ⟨k, hk, rfl, ho⟩ := hrel
    by_cases hlt : k < n
    · obtain ⟨ad, rfl, hcell⟩ := HC.out (by omega)
      have hck := hcell k hlt
      have hst := Lib.hid (okAll_snoc xs k (by rw [HL.out]; exact hlt))
      have hnt := Lib.hid (okAll_not xs k (by rw [HL.out]; exact hlt))
      clear hcell
      go_wp2_with (go_at_call 33; refine (npred _ _).mono ?_; rintro e w' ⟨rfl, rfl⟩)
      · go_ret
        exact ⟨⟨_, rfl, by unfold idxR; rw [if_neg (by rw [hnt.out (by simpa using ‹(!inB (rdI xs k) 0 1073741824) = true›)]; simp)]; omega⟩, rfl⟩
      · go_round
        case rel => exact ⟨k + 1, by omega, by go_num, by show okAll _ = true; rw [hst.out, ho.out]; simpa using ‹(!inB (rdI xs k) 0 1073741824) = false›⟩
        case measure => simp [intOf]; omega
    · go_wp2
      go_ret
      exact ⟨⟨_, rfl, by unfold idxR; rw [if_pos (by have := ho.out; rwa [List.take_of_length_le (by rw [HL.out]; omega)] at this)]⟩, rfl⟩
set_option maxHeartbeats 400000 in
theorem ncontains (A : Option Addr) (n c : Nat) (xs : List Int) (w : World) (hr : Rd .i64 w A n xs) :
    Calls Try.prog 32 #[.slice A n c, .func (.func 33) #[] #[]] w fun e w' => e = .returned (.bool (!okAll xs)) ∧ w = w' := by
  go_enter Try.func32, Try.ntmps32
  go_wp2_with (go_at_call 40; refine (nindex _ _ _ _ _ hr).mono ?_; rintro e w' ⟨⟨r, rfl, hx⟩, rfl⟩)
  go_ret
  refine ⟨ret_bool ?_, rfl⟩
  unfold idxR at hx
  cases h : okAll xs
  · rw [h] at hx; simp at hx; simpa using hx
  · rw [h] at hx; simp at hx; subst hx; rfl

set_option maxHeartbeats 1000000 in
theorem findex (A : Option Addr) (n c : Nat) (zs : List E32) (w : World) (hr : Fd w A n zs) :
    Calls Try.prog 41 #[.slice A n c, .func (.func 39) #[] #[]] w fun e w' => (∃ r, e = .returned (.int .i64 r) ∧ idxR (okFs zs) r) ∧ Below w.heap.size w w' := by
  have hu32 := Try.underlying32
  have HR := Lib.hid hr
  have HL := Lib.hid hr.1
  have hn := hr.2.1
  clear hr
  go_enter Try.func41, Try.ntmps41
  go_wp2
  go_loopw [5, 8] (fun _ i wr => ∃ k : Nat, k ≤ n ∧ i = .int .i64 k ∧ Hid (okFs (zs.take k) = true) ∧ Below w.heap.size w wr) (fun _ i _ => n - (intOf i).toNat)
  case atStart => exact ⟨0, by omega, rfl, rfl, Below.refl _ _⟩
  case round =>
    obtain ⟨k, hk, rfl, ho, hbr⟩ := hrel
    by_cases hlt : k < n
    · obtain ⟨_, _, hc'⟩ := Fd.below HR.out hbr
      obtain ⟨ad, rfl, hcell⟩ := hc' (by omega)
      obtain ⟨hck, htk⟩ := hcell k hlt
      have hst := Lib.hid (okFs_snoc zs k (by rw [HL.out]; exact hlt))
      have hnt := Lib.hid (okFs_not zs k (by rw [HL.out]; exact hlt))
      clear hcell
      go_wp2_with (go_at_call 39; refine (fpred _ _ _).mono ?_; rintro e w' ⟨rfl, hbn⟩)
      · go_ret
        exact ⟨⟨_, rfl, by unfold idxR; rw [if_neg (by rw [hnt.out (by simpa using ‹(!okF (gc zs k) (gt zs k)) = true›)]; simp)]; omega⟩, (by repeat (first | exact Below.refl _ _ | assumption | refine Below.drew ?_ | refine below_dN ?_ _ | refine Below.setCell ?_ (by first | omega | (simp; done) | (simp; omega)) _ | refine below_al ?_ (by first | omega | (simp; done) | (simp; omega)) _ | refine below_tr (by assumption) ?_ (by first | omega | (simp; done) | (simp; omega))))⟩
      · go_roundw
        case rel => exact ⟨k + 1, by omega, by go_num, by show okFs _ = true; rw [hst.out, ho.out]; simpa using ‹(!okF (gc zs k) (gt zs k)) = false›, (by repeat (first | exact Below.refl _ _ | assumption | refine Below.drew ?_ | refine below_dN ?_ _ | refine Below.setCell ?_ (by first | omega | (simp; done) | (simp; omega)) _ | refine below_al ?_ (by first | omega | (simp; done) | (simp; omega)) _ | refine below_tr (by assumption) ?_ (by first | omega | (simp; done) | (simp; omega))))⟩
        case measure => simp [intOf]; omega
    · go_wp2
      go_ret
      exact ⟨⟨_, rfl, by unfold idxR; rw [if_pos (by have := ho.out; rwa [List.take_of_length_le (by rw [HL.out]; omega)] at this)]⟩, hbr⟩
set_option maxHeartbeats 400000 in
theorem fcontains (A : Option Addr) (n c : Nat) (zs : List E32) (w : World) (hr : Fd w A n zs) :
    Calls Try.prog 38 #[.slice A n c, .func (.func 39) #[] #[]] w fun e w' => e = .returned (.bool (!okFs zs)) ∧ Below w.heap.size w w' := by
  go_enter Try.func38, Try.ntmps38
  go_wp2_with (go_at_call 41; refine (findex _ _ _ _ _ hr).mono ?_; rintro e w' ⟨⟨r, rfl, hx⟩, hbn⟩)
  go_ret
  refine ⟨ret_bool ?_, hbn⟩
  unfold idxR at hx
  cases h : okFs zs
  · rw [h] at hx; simp at hx; simpa using hx
  · rw [h] at hx; simp at hx; subst hx; rfl

/-- may flows be? -/
def rightF (zs : List E32) (m : Int) : Bool := inB m 1 65536 && (inB zs.length 1 8 && okFs zs)
def checkV (zs : List E32) (m : Int) : Int := if rightF zs m = true then 0 else 130
set_option maxHeartbeats 1000000 in
theorem right (A : Option Addr) (n c : Nat) (zs : List E32) (m : Int) (w : World) (hr : Fd w A n zs) :
    Calls Try.prog 29 #[.agg #[.slice A n c, .int .i64 m]] w fun e w' => e = .returned (.bool (rightF zs m)) ∧ Below w.heap.size w w' := by
  have hu49 := Try.underlying49
  have HR := Lib.hid hr
  have HL := Lib.hid hr.1
  have hn := hr.2.1
  clear hr
  go_enter Try.func29, Try.ntmps29
  go_wp2_with (go_at_call 38; refine (fcontains _ _ _ zs _ (Fd.below HR.out (by repeat (first | exact Below.refl _ _ | assumption | refine Below.drew ?_ | refine below_dN ?_ _ | refine Below.setCell ?_ (by first | omega | (simp; done) | (simp; omega)) _ | refine below_al ?_ (by first | omega | (simp; done) | (simp; omega)) _ | refine below_tr (by assumption) ?_ (by first | omega | (simp; done) | (simp; omega)))))).mono ?_; rintro e w' ⟨rfl, hbn⟩)
  all_goals
    go_ret
    have hl := HL.out
    clear HR HL
    exact ⟨ret_bool (by unfold rightF; rw [hl]; simp_all [inB] <;> omega), (by repeat (first | exact Below.refl _ _ | assumption | refine Below.drew ?_ | refine below_dN ?_ _ | refine Below.setCell ?_ (by first | omega | (simp; done) | (simp; omega)) _ | refine below_al ?_ (by first | omega | (simp; done) | (simp; omega)) _ | refine below_tr (by assumption) ?_ (by first | omega | (simp; done) | (simp; omega))))⟩
set_option maxHeartbeats 400000 in
theorem check (A : Option Addr) (n c : Nat) (zs : List E32) (m : Int) (w : World) (hr : Fd w A n zs) :
    Calls Try.prog 15 #[.slice A n c, .int .i64 m] w fun e w' => e = .returned (.int .i64 (checkV zs m)) ∧ Below w.heap.size w w' := by
  have hu49 := Try.underlying49
  go_enter Try.func15, Try.ntmps15
  go_wp2_with (go_at_call 29; refine (right _ _ _ zs _ _ hr).mono ?_; rintro e w' ⟨rfl, hbn⟩)
  all_goals
    go_ret
    exact ⟨ret_int (by unfold checkV; simp_all), hbn⟩
set_option maxHeartbeats 1000000 in
theorem rcheck (A : Option Addr) (n c : Nat) (zs : List E32) (m : Int) (w : World) (hr : Fd w A n zs) :
    Calls Try.prog 12 #[.slice A n c, .int .i64 m] w fun e w' => e = .returned (.int .i64 (checkV zs m)) ∧ w = w' := by
  have hu32 := Try.underlying32
  obtain ⟨hl, hn, hc⟩ := hr
  have HL := Lib.hid hl
  have HC := Lib.hid hc
  clear hl hc
  by_cases h1 : (1 : Int) ≤ n ∧ (n : Int) ≤ 8 ∧ 1 ≤ m ∧ m ≤ 65536
  · obtain ⟨h1, h2, h3, h4⟩ := h1
    have hrf : checkV zs m = if okFs zs = true then 0 else 130 := by unfold checkV; rw [show rightF zs m = okFs zs by unfold rightF inB; rw [HL.out]; simp [*]]
    have HRF := Lib.hid hrf
    clear hrf
    go_enter Try.func12, Try.ntmps12
    go_wp2
    go_loop [5] (fun i => ∃ k : Nat, k ≤ n ∧ i = .int .i64 k ∧ Hid (okFs (zs.take k) = true)) (fun i => n - (intOf i).toNat)
    case atStart => exact ⟨0, by omega, rfl, rfl⟩
    case round =>
      obtain ⟨k, hk, rfl, ho⟩ := hrel
      by_cases hlt : k < n
      · obtain ⟨ad, rfl, hcell⟩ := HC.out (by omega)
        obtain ⟨hck, htk⟩ := hcell k hlt
        have hst := Lib.hid (okFs_snoc zs k (by rw [HL.out]; exact hlt))
        have hnt := Lib.hid (okFs_not zs k (by rw [HL.out]; exact hlt))
        clear hcell
        go_wp2_with (go_at_call 27; refine (window _ _).mono ?_; rintro e w' ⟨rfl, rfl⟩)
        · go_ret
          exact ⟨ret_int (by rw [HRF.out, hnt.out (by simp_all [okF])]; rfl), rfl⟩
        · go_round
          case rel => exact ⟨k + 1, by omega, by go_num, by show okFs _ = true; rw [hst.out, ho.out]; simp_all [okF]⟩
          case measure => simp [intOf]; omega
        · go_ret
          exact ⟨ret_int (by rw [HRF.out, hnt.out (by simp_all [okF])]; rfl), rfl⟩
      · go_wp2
        go_ret
        exact ⟨ret_int (by have := ho.out; rw [List.take_of_length_le (by rw [HL.out]; omega)] at this; rw [HRF.out, this]; rfl), rfl⟩
  · have hrf : checkV zs m = 130 := by
      unfold checkV
      cases hh : rightF zs m
      · rfl
      · unfold rightF inB at hh; rw [HL.out] at hh; simp at hh; omega
    rw [hrf]
    clear hrf
    go_enter Try.func12, Try.ntmps12
    go_wp2
    all_goals
      go_ret
      first
        | exact ⟨rfl, rfl⟩
        | omega
