/- Contracts of split.Share, Left and of the reference's, and of Same. -/
import Derived.Test.YtbcmgchclkjgeaaD
import Derived.Deep.RegionHeld3
import Derived.Deep.DrawnRows
import Derived.Deep.AppendLies
import Derived.OwnWalk
import Derived.LoopTactic
namespace Go.Proofs.Ytbcmgchclkjgeaa.C
open Go.RowKit
set_option linter.unusedVariables false
set_option linter.unusedSimpArgs false
attribute [local go_sem high] max2_mx min2_mn max_two min_two
attribute [local go_sem ↓] Go.wp_at_zero Go.wp_at_succ

set_option maxHeartbeats 400000 in
theorem pshare_ok (b p m : Int) (w : World) (h : mayB b p m = true) :
    Calls Try.prog 8 #[.agg #[.int .i64 b, .int .i64 p, .int .i64 m]] w fun e w' => e = .returned (.tuple #[.int .i64 (ceilB b p), .int .i64 0]) ∧ Below w.heap.size w w' := by
  have hu23 := Try.underlying23
  have hb := h
  unfold mayB at hb
  simp only [Bool.and_eq_true] at hb
  obtain ⟨g1, g2, g3⟩ := hb
  obtain ⟨b0, b1⟩ := inB_t g1
  obtain ⟨p0, p1⟩ := inB_t g2
  clear g1 g2 g3
  go_enter Try.func8, Try.ntmps8
  go_wp2_with fail
  refine (may _ _ _ _).mono ?_
  rintro e w1 ⟨rfl, hb1⟩
  obtain ⟨hc1, hf1⟩ := bcell hb1
  go_wp2_with fail
  refine (share _ _ _ (by omega) (by omega) (by omega) (by omega)).mono ?_
  rintro e w' ⟨rfl, rfl⟩
  go_wp2
  go_ret2
  exact ⟨rfl, (by repeat (first | exact Below.refl _ _ | assumption | refine Below.drew ?_ | refine below_dN ?_ _ | refine Below.setCell ?_ (by first | omega | (simp; done) | (simp; omega)) _ | refine below_al ?_ (by first | omega | (simp; done) | (simp; omega)) _ | refine below_tr (by assumption) ?_ (by first | omega | (simp; done) | (simp; omega))))⟩
set_option maxHeartbeats 400000 in
theorem pshare_bad (b p m : Int) (w : World) (h : mayB b p m = false) :
    Calls Try.prog 8 #[.agg #[.int .i64 b, .int .i64 p, .int .i64 m]] w fun e w' => e = .returned (.tuple #[.int .i64 0, .int .i64 140]) ∧ Below w.heap.size w w' := by
  have hu23 := Try.underlying23
  go_enter Try.func8, Try.ntmps8
  go_wp2_with fail
  refine (may _ _ _ _).mono ?_
  rintro e w1 ⟨rfl, hb1⟩
  go_wp2
  go_ret2
  exact ⟨rfl, (by repeat (first | exact Below.refl _ _ | assumption | refine Below.drew ?_ | refine below_dN ?_ _ | refine Below.setCell ?_ (by first | omega | (simp; done) | (simp; omega)) _ | refine below_al ?_ (by first | omega | (simp; done) | (simp; omega)) _ | refine below_tr (by assumption) ?_ (by first | omega | (simp; done) | (simp; omega))))⟩
set_option maxHeartbeats 400000 in
theorem rshare_ok (b p m : Int) (w : World) (h : mayB b p m = true) :
    Calls Try.prog 13 #[.agg #[.int .i64 b, .int .i64 p, .int .i64 m]] w fun e w' => e = .returned (.tuple #[.int .i64 (ceilB b p), .int .i64 0]) ∧ Below w.heap.size w w' := by
  have hu23 := Try.underlying23
  have hb := h
  unfold mayB at hb
  simp only [Bool.and_eq_true] at hb
  obtain ⟨g1, g2, g3⟩ := hb
  obtain ⟨b0, b1⟩ := inB_t g1
  obtain ⟨p0, p1⟩ := inB_t g2
  clear g1 g2 g3
  go_enter Try.func13, Try.ntmps13
  go_wp2_with fail
  refine (rmay _ _ _ _).mono ?_
  rintro e w1 ⟨rfl, hb1⟩
  obtain ⟨hc1, hf1⟩ := bcell hb1
  go_wp2_with fail
  refine (part _ _ _ (by omega) (by omega) (by omega) (by omega)).mono ?_
  rintro e w' ⟨rfl, rfl⟩
  go_wp2
  go_ret2
  exact ⟨rfl, (by repeat (first | exact Below.refl _ _ | assumption | refine Below.drew ?_ | refine below_dN ?_ _ | refine Below.setCell ?_ (by first | omega | (simp; done) | (simp; omega)) _ | refine below_al ?_ (by first | omega | (simp; done) | (simp; omega)) _ | refine below_tr (by assumption) ?_ (by first | omega | (simp; done) | (simp; omega))))⟩
set_option maxHeartbeats 400000 in
theorem rshare_bad (b p m : Int) (w : World) (h : mayB b p m = false) :
    Calls Try.prog 13 #[.agg #[.int .i64 b, .int .i64 p, .int .i64 m]] w fun e w' => e = .returned (.tuple #[.int .i64 0, .int .i64 140]) ∧ Below w.heap.size w w' := by
  have hu23 := Try.underlying23
  go_enter Try.func13, Try.ntmps13
  go_wp2_with fail
  refine (rmay _ _ _ _).mono ?_
  rintro e w1 ⟨rfl, hb1⟩
  go_wp2
  go_ret2
  exact ⟨rfl, (by repeat (first | exact Below.refl _ _ | assumption | refine Below.drew ?_ | refine below_dN ?_ _ | refine Below.setCell ?_ (by first | omega | (simp; done) | (simp; omega)) _ | refine below_al ?_ (by first | omega | (simp; done) | (simp; omega)) _ | refine below_tr (by assumption) ?_ (by first | omega | (simp; done) | (simp; omega))))⟩

/-! ### Left -/
def RetL (xs : List Int) (err : Int) (w : World) (e : Ending) (w' : World) : Prop :=
  ∃ A c, e = .returned (.tuple #[.slice A xs.length c, .int .i64 err]) ∧ Rd .i64 w' A xs.length xs ∧ Below w.heap.size w w'
theorem RetL.nil {err : Int} {w w' : World} {e : Ending} (he : e = .returned (.tuple #[.slice none 0 0, .int .i64 err])) (hb : Below w.heap.size w w') : RetL [] err w e w' :=
  ⟨none, 0, he, ⟨rfl, by decide, fun h => absurd h (by decide)⟩, hb⟩
def leftF (b p win : Int) (xs : List Int) : List Int := xs.map fun n => mx 0 (mn (ceilB b p) (ceilB win p) - n)
theorem leftF_snoc (b p win : Int) (xs : List Int) (k : Nat) (h : k < xs.length) : leftF b p win (xs.take (k + 1)) = leftF b p win (xs.take k) ++ [mx 0 (mn (ceilB b p) (ceilB win p) - rdI xs k)] := by
  rw [List.take_succ_eq_append_getElem h]
  unfold leftF rdI
  rw [List.map_append, List.getD_eq_getElem?_getD, List.getElem?_eq_getElem h]
  rfl
def nums (xs : List Int) : List Value := xs.map fun x => .int .i64 x
theorem nums_snoc (xs : List Int) (x : Int) : nums (xs ++ [x]) = nums xs ++ [.int .i64 x] := by simp [nums]
theorem Rd_own {w : World} {base : Nat} {e : TypeId} {v : Value} {n : Nat} {xs : List Int} (h : w.ownsRow base e 1 v n (nums xs)) : ∃ A c, v = .slice A n c ∧ Rd .i64 w A n xs := by
  have hl : xs.length = n := by have := h.1; simp [nums] at this; exact this
  rcases Nat.eq_zero_or_pos n with h0 | h0
  · subst h0
    rcases h.2 with ⟨rfl, _⟩ | ⟨g, cap, cur, rfl, _⟩
    · exact ⟨none, 0, rfl, hl, by omega, fun hp => absurd hp (by omega)⟩
    · exact ⟨_, cap, rfl, hl, by omega, fun hp => absurd hp (by omega)⟩
  · obtain ⟨g, cap, rfl, _, _⟩ := h.form h0
    have hm : n ≤ 9223372036854775807 := by
      rcases h.2 with ⟨_, h1⟩ | ⟨g', cap', cur, he, _, _, h1, h2, _⟩
      · omega
      · simp only [maxLen] at h2
        omega
    refine ⟨_, cap, rfl, hl, hm, fun _ => ⟨_, rfl, fun j hj => h.cells (g := g) rfl j _ ?_⟩⟩
    simp [nums, rdI, List.getElem?_eq_getElem (show j < xs.length by omega)]
theorem info3 : (Try.prog.info? 3).map (fun i => (i.zero, i.size, i.bytes)) = some (some (.int .i64 0), 1, 8) := by kernel_rfl
theorem ceil_range (n p : Int) (h0 : 0 ≤ n) (h1 : n ≤ 1073741824) (p0 : 1 ≤ p) (p1 : p ≤ 8) : 0 ≤ ceilB n p ∧ ceilB n p ≤ 1073741831 := by
  unfold ceilB
  exact ⟨Int.ediv_nonneg (by omega) (by omega), Int.le_trans (Int.ediv_le_self _ (by omega)) (by omega)⟩

set_option maxHeartbeats 400000 in
theorem left_bad (b p m win : Int) (A : Option Addr) (n c : Nat) (xs : List Int) (w : World) (hr : Rd .i64 w A n xs) (h : checkF b p m xs ≠ 0) :
    Calls Try.prog 12 #[.agg #[.int .i64 b, .int .i64 p, .int .i64 m], .int .i64 win, .slice A n c] w (RetL [] (checkF b p m xs) w) := by
  have hu23 := Try.underlying23
  have h' : (checkF b p m xs != 0) = true := by simpa using h
  have HR := Lib.hid hr
  clear hr h
  go_enter Try.func12, Try.ntmps12
  go_wp2_with fail
  refine (check _ _ _ _ _ _ _ _ (Rd.below HR.out (by repeat (first | exact Below.refl _ _ | assumption | refine Below.drew ?_ | refine below_dN ?_ _ | refine Below.setCell ?_ (by first | omega | (simp; done) | (simp; omega)) _ | refine below_al ?_ (by first | omega | (simp; done) | (simp; omega)) _ | refine below_tr (by assumption) ?_ (by first | omega | (simp; done) | (simp; omega)))))).mono ?_
  rintro e w1 ⟨rfl, hb1⟩
  go_wp2
  go_ret2
  exact RetL.nil rfl (by repeat (first | exact Below.refl _ _ | assumption | refine Below.drew ?_ | refine below_dN ?_ _ | refine Below.setCell ?_ (by first | omega | (simp; done) | (simp; omega)) _ | refine below_al ?_ (by first | omega | (simp; done) | (simp; omega)) _ | refine below_tr (by assumption) ?_ (by first | omega | (simp; done) | (simp; omega))))
set_option maxHeartbeats 400000 in
theorem left_far (b p m win : Int) (A : Option Addr) (n c : Nat) (xs : List Int) (w : World) (hr : Rd .i64 w A n xs) (h : checkF b p m xs = 0) (hw : inB win 0 1073741824 = false) :
    Calls Try.prog 12 #[.agg #[.int .i64 b, .int .i64 p, .int .i64 m], .int .i64 win, .slice A n c] w (RetL [] 5 w) := by
  have hu23 := Try.underlying23
  have HR := Lib.hid hr
  clear hr
  go_enter Try.func12, Try.ntmps12
  go_wp2_with fail
  refine (check _ _ _ _ _ _ _ _ (Rd.below HR.out (by repeat (first | exact Below.refl _ _ | assumption | refine Below.drew ?_ | refine below_dN ?_ _ | refine Below.setCell ?_ (by first | omega | (simp; done) | (simp; omega)) _ | refine below_al ?_ (by first | omega | (simp; done) | (simp; omega)) _ | refine below_tr (by assumption) ?_ (by first | omega | (simp; done) | (simp; omega)))))).mono ?_
  rintro e w1 ⟨rfl, hb1⟩
  go_wp2_with (go_at_call 26; refine (within _ _ _ _).mono ?_; rintro e w' ⟨rfl, rfl⟩)
  go_ret2
  exact RetL.nil rfl (by repeat (first | exact Below.refl _ _ | assumption | refine Below.drew ?_ | refine below_dN ?_ _ | refine Below.setCell ?_ (by first | omega | (simp; done) | (simp; omega)) _ | refine below_al ?_ (by first | omega | (simp; done) | (simp; omega)) _ | refine below_tr (by assumption) ?_ (by first | omega | (simp; done) | (simp; omega))))
set_option maxHeartbeats 2000000 in
set_option maxRecDepth 100000 in
theorem left_ok (b p m win : Int) (A : Option Addr) (n c : Nat) (xs : List Int) (w : World) (hr : Rd .i64 w A n xs) (h : checkF b p m xs = 0) (hw : inB win 0 1073741824 = true)
    (b0 : 0 ≤ b) (b1 : b ≤ 1073741824) (p0 : 1 ≤ p) (p1 : p ≤ 8) (hn8 : n ≤ 8) (hx : ∀ x ∈ xs, 0 ≤ x ∧ x ≤ 1073741824) :
    Calls Try.prog 12 #[.agg #[.int .i64 b, .int .i64 p, .int .i64 m], .int .i64 win, .slice A n c] w (RetL (leftF b p win xs) 0 w) := by
  have hu23 := Try.underlying23
  obtain ⟨w0, w1'⟩ := inB_t hw
  have cb := ceil_range b p b0 b1 p0 p1
  have cw := ceil_range win p w0 w1' p0 p1
  obtain ⟨i0, hi0, hz0, hz1, hz2⟩ := info_parts info3
  have HR := Lib.hid hr
  have HX := Lib.hid hx
  clear hr hx
  go_enter Try.func12, Try.ntmps12
  go_wp2_with fail
  refine (check _ _ _ _ _ _ _ _ (Rd.below HR.out (by repeat (first | exact Below.refl _ _ | assumption | refine Below.drew ?_ | refine below_dN ?_ _ | refine Below.setCell ?_ (by first | omega | (simp; done) | (simp; omega)) _ | refine below_al ?_ (by first | omega | (simp; done) | (simp; omega)) _ | refine below_tr (by assumption) ?_ (by first | omega | (simp; done) | (simp; omega)))))).mono ?_
  rintro e w1 ⟨rfl, hb1⟩
  obtain ⟨hc1, hf1⟩ := bcell hb1
  have HB1 : Hid (Below w.heap.size w w1) := by show Below _ _ _; exact (by repeat (first | exact Below.refl _ _ | assumption | refine Below.drew ?_ | refine below_dN ?_ _ | refine Below.setCell ?_ (by first | omega | (simp; done) | (simp; omega)) _ | refine below_al ?_ (by first | omega | (simp; done) | (simp; omega)) _ | refine below_tr (by assumption) ?_ (by first | omega | (simp; done) | (simp; omega))))
  have hs1 : w.heap.size < w1.heap.size := by have := hb1.size; simp at this; omega
  have q0 : w1.cell? ⟨w.heap.size, 0, none⟩ = some (.int .i64 b) := by simp [go_sem, hc1]
  have q1 : w1.cell? ⟨w.heap.size, 1, none⟩ = some (.int .i64 p) := by simp [go_sem, hc1]
  have HR1 := Lib.hid (Rd.below HR.out HB1.out)
  have HL := Lib.hid HR.out.1
  clear hc1 hf1 hb1
  go_wp2_with (go_at_call 26; refine (within _ _ _ _).mono ?_; rintro e w' ⟨rfl, rfl⟩)
  go_loopw [9, 11, 23] (fun l _ i wr => ∃ k : Nat, k ≤ n ∧ i = .int .i64 k ∧ wr.ownsRow w1.heap.size 3 1 l k (nums (leftF b p win (xs.take k))) ∧ Below w1.heap.size w1 wr) (fun _ _ i _ => n - (intOf i).toNat)
  case atStart => exact ⟨0, by omega, rfl, ⟨by simp [nums, leftF], .inl ⟨rfl, by simp [nums, leftF]⟩⟩, Below.refl _ _⟩
  case round =>
    obtain ⟨k, hk, rfl, hown, hbr⟩ := hrel
    by_cases hlt : k < n
    · obtain ⟨hl', hn', hc'⟩ := Rd.below HR1.out hbr
      obtain ⟨ad, rfl, hcell⟩ := hc' (by omega)
      have hck := hcell k hlt
      obtain ⟨x0, x1⟩ := rdI_mem xs (fun x => 0 ≤ x ∧ x ≤ 1073741824) (by decide) HX.out k
      have hst := Lib.hid (leftF_snoc b p win xs k (by rw [HL.out]; exact hlt))
      have hsz : w1.heap.size ≤ wr.heap.size := hbr.size
      have hs2 : w.heap.size < wr.heap.size := by omega
      have HOWN := Lib.hid hown
      have hsub : IntKind.i64.wrap (mn (ceilB b p) (ceilB win p) - rdI xs k) = mn (ceilB b p) (ceilB win p) - rdI xs k := by
        have : 0 ≤ mn (ceilB b p) (ceilB win p) ∧ mn (ceilB b p) (ceilB win p) ≤ 1073741831 := by rw [mn_def]; split <;> omega
        rw [IntKind.wrap_i64]; omega
      clear hcell hl' hn' hc' hown
      go_wp2_with fail
      go_region_held3 (fun w' => Below w1.heap.size w1 w' ∧ ∀ a : Addr, a.block < w1.heap.size → w'.cell? a = w1.cell? a) (first | exact keep0 _ | assumption | exact keepB (by repeat (first | exact Below.refl _ _ | assumption | refine Below.drew ?_ | refine below_dN ?_ _ | refine Below.setCell ?_ (by first | omega | (simp; done) | (simp; omega)) _ | refine below_al ?_ (by first | omega | (simp; done) | (simp; omega)) _ | refine below_tr (by assumption) ?_ (by first | omega | (simp; done) | (simp; omega)))) | exact keep1 (by assumption) (by first | assumption | exact (Below.refl _ _).drew | exact And.left (by assumption)) (by first | omega | (simp; done) | (simp; omega))) (first | (go_at_call 23; refine (share _ _ _ (by omega) (by omega) (by omega) (by omega)).mono ?_; rintro e w' ⟨rfl, rfl⟩) | (refine step_append_lies _ (by rfl) _ _ _ (by rfl) w1.heap.size 3 i0 _ 1 8 Try.underlying29 hi0 hz0 hz1 hz2 rfl (by omega) u9 k (nums (leftF b p win (xs.take k))) (by rfl) ((HOWN.out.alloc _).drew) ⟨wr.heap.size, 0, none⟩ 1 1 [.int .i64 (mx 0 (mn (ceilB b p) (ceilB win p) - rdI xs k))] (by rfl) (by rfl) (World.news_of_block (cs := #[.int .i64 (mx 0 (mn (ceilB b p) (ceilB win p) - rdI xs k))]) (t := 3) (fr := (0, 0)) (heap_alloc_new wr _)) (by simp [Value.oneCell']) (by omega) (by simp only [maxLen]; omega) (by omega) (by simp; omega) (wr.heap.size + 1) (by simp) ?_; intro g cap w3 hown3 hgrow hat hlt3; have hb3 : Below w1.heap.size w1 w3 := below_app (by repeat (first | exact Below.refl _ _ | assumption | refine Below.drew ?_ | refine below_dN ?_ _ | refine Below.setCell ?_ (by first | omega | (simp; done) | (simp; omega)) _ | refine below_al ?_ (by first | omega | (simp; done) | (simp; omega)) _ | refine below_tr (by assumption) ?_ (by first | omega | (simp; done) | (simp; omega)))) (by simp; omega) ((HOWN.out.alloc _).drew) hgrow))
      have HO3 : Hid (w3.ownsRow w1.heap.size 3 1 (.slice (some ⟨g, 0, none⟩) (k + 1) cap) (k + 1) (nums (leftF b p win (xs.take (k + 1))))) := by
        show w3.ownsRow _ _ _ _ _ _
        rw [hst.out, nums_snoc]
        exact hown3
      clear hown3 hgrow hat
      go_wp2
      go_roundw
      case rel => exact ⟨k + 1, by omega, by go_num, HO3.out, hb3⟩
      case measure => simp [intOf]; omega
    · obtain rfl : k = n := by omega
      obtain ⟨A', c', rfl, hrd⟩ := Rd_own hown
      have hlen : (leftF b p win (xs.take k)) = leftF b p win xs := by rw [List.take_of_length_le (by rw [HL.out]; omega)]
      have hl2 : (leftF b p win xs).length = k := by unfold leftF; rw [List.length_map, HL.out]
      rw [hlen] at hrd
      have HRD := Lib.hid hrd
      have HL2 := Lib.hid hl2
      clear hrd hl2 hlen hown
      go_wp2
      go_ret2
      exact ⟨A', c', by rw [HL2.out]; rfl, by rw [HL2.out]; exact HRD.out, HB1.out.trans (hbr.mono (by omega))⟩
