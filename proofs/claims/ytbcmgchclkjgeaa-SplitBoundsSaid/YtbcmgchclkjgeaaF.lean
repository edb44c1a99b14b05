/- The reference's Left. -/
import Derived.Test.YtbcmgchclkjgeaaE
namespace Go.Proofs.Ytbcmgchclkjgeaa.C
open Go.RowKit
set_option linter.unusedVariables false
set_option linter.unusedSimpArgs false
attribute [local go_sem high] max2_mx min2_mn max_two min_two
attribute [local go_sem ↓] Go.wp_at_zero Go.wp_at_succ
set_option maxHeartbeats 400000 in
theorem rleft_bad (b p m win : Int) (A : Option Addr) (n c : Nat) (xs : List Int) (w : World) (hr : Rd .i64 w A n xs) (h : checkF b p m xs ≠ 0) :
    Calls Try.prog 14 #[.agg #[.int .i64 b, .int .i64 p, .int .i64 m], .int .i64 win, .slice A n c] w (RetL [] (checkF b p m xs) w) := by
  have hu23 := Try.underlying23
  have h' : (checkF b p m xs != 0) = true := by simpa using h
  have HR := Lib.hid hr
  clear hr h
  go_enter Try.func14, Try.ntmps14
  go_wp2_with fail
  refine (rcheck _ _ _ _ _ _ _ _ (Rd.below HR.out (by repeat (first | exact Below.refl _ _ | assumption | refine Below.drew ?_ | refine below_dN ?_ _ | refine Below.setCell ?_ (by first | omega | (simp; done) | (simp; omega)) _ | refine below_al ?_ (by first | omega | (simp; done) | (simp; omega)) _ | refine below_tr (by assumption) ?_ (by first | omega | (simp; done) | (simp; omega)))))).mono ?_
  rintro e w1 ⟨rfl, hb1⟩
  go_wp2
  go_ret2
  exact RetL.nil rfl (by repeat (first | exact Below.refl _ _ | assumption | refine Below.drew ?_ | refine below_dN ?_ _ | refine Below.setCell ?_ (by first | omega | (simp; done) | (simp; omega)) _ | refine below_al ?_ (by first | omega | (simp; done) | (simp; omega)) _ | refine below_tr (by assumption) ?_ (by first | omega | (simp; done) | (simp; omega))))
set_option maxHeartbeats 400000 in
theorem rleft_far (b p m win : Int) (A : Option Addr) (n c : Nat) (xs : List Int) (w : World) (hr : Rd .i64 w A n xs) (h : checkF b p m xs = 0) (hw : inB win 0 1073741824 = false) :
    Calls Try.prog 14 #[.agg #[.int .i64 b, .int .i64 p, .int .i64 m], .int .i64 win, .slice A n c] w (RetL [] 5 w) := by
  have hu23 := Try.underlying23
  have HR := Lib.hid hr
  clear hr
  go_enter Try.func14, Try.ntmps14
  go_wp2_with fail
  refine (rcheck _ _ _ _ _ _ _ _ (Rd.below HR.out (by repeat (first | exact Below.refl _ _ | assumption | refine Below.drew ?_ | refine below_dN ?_ _ | refine Below.setCell ?_ (by first | omega | (simp; done) | (simp; omega)) _ | refine below_al ?_ (by first | omega | (simp; done) | (simp; omega)) _ | refine below_tr (by assumption) ?_ (by first | omega | (simp; done) | (simp; omega)))))).mono ?_
  rintro e w1 ⟨rfl, hb1⟩
  rcases Bool.eq_false_iff.1 hw |> fun h => (show win < 0 ∨ 1073741824 < win from by have := inB_f hw; omega) with hlo | hhi
  · go_wp2
    go_ret2
    exact RetL.nil rfl (by repeat (first | exact Below.refl _ _ | assumption | refine Below.drew ?_ | refine below_dN ?_ _ | refine Below.setCell ?_ (by first | omega | (simp; done) | (simp; omega)) _ | refine below_al ?_ (by first | omega | (simp; done) | (simp; omega)) _ | refine below_tr (by assumption) ?_ (by first | omega | (simp; done) | (simp; omega))))
  · have hlo : ¬ win < 0 := by omega
    go_wp2
    go_ret2
    exact RetL.nil rfl (by repeat (first | exact Below.refl _ _ | assumption | refine Below.drew ?_ | refine below_dN ?_ _ | refine Below.setCell ?_ (by first | omega | (simp; done) | (simp; omega)) _ | refine below_al ?_ (by first | omega | (simp; done) | (simp; omega)) _ | refine below_tr (by assumption) ?_ (by first | omega | (simp; done) | (simp; omega))))
set_option maxHeartbeats 2000000 in
set_option maxRecDepth 100000 in
theorem rleft_ok (b p m win : Int) (A : Option Addr) (n c : Nat) (xs : List Int) (w : World) (hr : Rd .i64 w A n xs) (h : checkF b p m xs = 0) (hw : inB win 0 1073741824 = true)
    (b0 : 0 ≤ b) (b1 : b ≤ 1073741824) (p0 : 1 ≤ p) (p1 : p ≤ 8) (hn8 : n ≤ 8) (hx : ∀ x ∈ xs, 0 ≤ x ∧ x ≤ 1073741824) :
    Calls Try.prog 14 #[.agg #[.int .i64 b, .int .i64 p, .int .i64 m], .int .i64 win, .slice A n c] w (RetL (leftF b p win xs) 0 w) := by
  have hu23 := Try.underlying23
  obtain ⟨w0, w1'⟩ := inB_t hw
  have cb := ceil_range b p b0 b1 p0 p1
  have cw := ceil_range win p w0 w1' p0 p1
  obtain ⟨i0, hi0, hz0, hz1, hz2⟩ := info_parts info3
  have HR := Lib.hid hr
  have HX := Lib.hid hx
  clear hr hx
  go_enter Try.func14, Try.ntmps14
  go_wp2_with fail
  refine (rcheck _ _ _ _ _ _ _ _ (Rd.below HR.out (by repeat (first | exact Below.refl _ _ | assumption | refine Below.drew ?_ | refine below_dN ?_ _ | refine Below.setCell ?_ (by first | omega | (simp; done) | (simp; omega)) _ | refine below_al ?_ (by first | omega | (simp; done) | (simp; omega)) _ | refine below_tr (by assumption) ?_ (by first | omega | (simp; done) | (simp; omega)))))).mono ?_
  rintro e w1 ⟨rfl, hb1⟩
  obtain ⟨hc1, hf1⟩ := bcell hb1
  have HB1 : Hid (Below w.heap.size w w1) := by show Below _ _ _; exact (by repeat (first | exact Below.refl _ _ | assumption | refine Below.drew ?_ | refine below_dN ?_ _ | refine Below.setCell ?_ (by first | omega | (simp; done) | (simp; omega)) _ | refine below_al ?_ (by first | omega | (simp; done) | (simp; omega)) _ | refine below_tr (by assumption) ?_ (by first | omega | (simp; done) | (simp; omega))))
  have hs1 : w.heap.size < w1.heap.size := by have := hb1.size; simp at this; omega
  have q0 : w1.cell? ⟨w.heap.size, 0, none⟩ = some (.int .i64 b) := by simp [go_sem, hc1]
  have q1 : w1.cell? ⟨w.heap.size, 1, none⟩ = some (.int .i64 p) := by simp [go_sem, hc1]
  have HR1 := Lib.hid (Rd.below HR.out HB1.out)
  have HL := Lib.hid HR.out.1
  clear hc1 hf1 hb1
  go_wp2
  go_loopw [9, 10, 11] (fun l i _ wr => ∃ k : Nat, k ≤ n ∧ i = .int .i64 k ∧ wr.ownsRow w1.heap.size 3 1 l k (nums (leftF b p win (xs.take k))) ∧ Below w1.heap.size w1 wr) (fun _ i _ _ => n - (intOf i).toNat)
  case atStart => exact ⟨0, by omega, rfl, ⟨by simp [nums, leftF], .inl ⟨rfl, by simp [nums, leftF]⟩⟩, Below.refl _ _⟩
  case round =>
    obtain ⟨k, hk, rfl, hown, hbr⟩ := hrel
    by_cases hlt : k < n
    · obtain ⟨hl', hn', hc'⟩ := Rd.below HR1.out hbr
      obtain ⟨ad, rfl, hcell⟩ := hc' (by omega)
      have hck := hcell k hlt
      obtain ⟨x0, x1⟩ := rdI_mem xs (fun x => 0 ≤ x ∧ x ≤ 1073741824) (by decide) HX.out k
      have hst := Lib.hid (leftF_snoc b p win xs k (by rw [HL.out]; exact hlt))
      have hsz : w1.heap.size ≤ wr.heap.size := hbr.size
      have hs2 : w.heap.size < wr.heap.size := by omega
      have HOWN := Lib.hid hown
      have hsub : IntKind.i64.wrap (mn (ceilB b p) (ceilB win p) - rdI xs k) = mn (ceilB b p) (ceilB win p) - rdI xs k := by
        have : 0 ≤ mn (ceilB b p) (ceilB win p) ∧ mn (ceilB b p) (ceilB win p) ≤ 1073741831 := by rw [mn_def]; split <;> omega
        rw [IntKind.wrap_i64]; omega
      clear hcell hl' hn' hc' hown
      go_wp2_with fail
      have hk1 : w1.cell? (ad.add k) = some (.int .i64 (rdI xs k)) := by
        obtain ⟨_, _, hq⟩ := HR1.out
        obtain ⟨ad', e', hq⟩ := hq (by omega)
        obtain rfl := Option.some.inj e'
        exact hq k hlt
      have hk2 := World.block_lt_of_cell? w1 _ hk1
      have hk3 : ad.block < w1.heap.size := by rw [block_add] at hk2; exact hk2
      have hk4 : (0 : Int) ≤ (k : Int) := by omega
      have hk5 : (k : Int) < (n : Int) := by omega
      go_region_held3 (fun w' => Below w1.heap.size w1 w' ∧ ∀ a : Addr, a.block < w1.heap.size → w'.cell? a = w1.cell? a) (first | exact keep0 _ | assumption | exact keepB (by repeat (first | exact Below.refl _ _ | assumption | refine Below.drew ?_ | refine below_dN ?_ _ | refine Below.setCell ?_ (by first | omega | (simp; done) | (simp; omega)) _ | refine below_al ?_ (by first | omega | (simp; done) | (simp; omega)) _ | refine below_tr (by assumption) ?_ (by first | omega | (simp; done) | (simp; omega)))) | exact keep1 (by assumption) (by first | assumption | exact (Below.refl _ _).drew | exact And.left (by assumption)) (by first | omega | (simp; done) | (simp; omega))) (first | (go_at_call 27; refine (part _ _ _ (by omega) (by omega) (by omega) (by omega)).mono ?_; rintro e w' ⟨rfl, rfl⟩))
      have hmx : mx (mn (ceilB b p) (ceilB win p) - rdI xs k) 0 = mx 0 (mn (ceilB b p) (ceilB win p) - rdI xs k) := by rw [mx_def, mx_def]; split <;> split <;> omega
      go_wp2_with (at_builtin; refine wpList_append_lies _ rfl _ _ _ rfl w1.heap.size 3 i0 _ 1 8 Try.underlying29 hi0 hz0 hz1 hz2 rfl (by omega) u9 k (nums (leftF b p win (xs.take k))) rfl ((HOWN.out.alloc _).drew) ⟨wr.heap.size, 0, none⟩ 1 1 [.int .i64 (mx 0 (mn (ceilB b p) (ceilB win p) - rdI xs k))] rfl rfl (World.news_of_block (cs := #[.int .i64 (mx 0 (mn (ceilB b p) (ceilB win p) - rdI xs k))]) (t := 3) (fr := (0, 0)) (heap_alloc_new wr _)) (by simp [Value.oneCell']) (by omega) (by simp only [maxLen]; omega) (by omega) (by simp; omega) (wr.heap.size + 1) (by simp) ?_; intro g cap w3 hown3 hgrow hat hlt3)
      have hb3 : Below w1.heap.size w1 w3 := below_app (by repeat (first | exact Below.refl _ _ | assumption | refine Below.drew ?_ | refine below_dN ?_ _ | refine Below.setCell ?_ (by first | omega | (simp; done) | (simp; omega)) _ | refine below_al ?_ (by first | omega | (simp; done) | (simp; omega)) _ | refine below_tr (by assumption) ?_ (by first | omega | (simp; done) | (simp; omega)))) (by simp; omega) ((HOWN.out.alloc _).drew) hgrow
      have HO3 : Hid (w3.ownsRow w1.heap.size 3 1 (.slice (some ⟨g, 0, none⟩) (k + 1) cap) (k + 1) (nums (leftF b p win (xs.take (k + 1))))) := by
        show w3.ownsRow _ _ _ _ _ _
        rw [hst.out, nums_snoc]
        exact hown3
      clear hown3 hgrow hat
      go_wp2
      go_roundw
      case rel => exact ⟨k + 1, by omega, by go_num, HO3.out, hb3⟩
      case measure => simp [intOf]; omega
    · obtain rfl : k = n := by omega
      obtain ⟨A', c', rfl, hrd⟩ := Rd_own hown
      have hlen : (leftF b p win (xs.take k)) = leftF b p win xs := by rw [List.take_of_length_le (by rw [HL.out]; omega)]
      have hl2 : (leftF b p win xs).length = k := by unfold leftF; rw [List.length_map, HL.out]
      rw [hlen] at hrd
      have HRD := Lib.hid hrd
      have HL2 := Lib.hid hl2
      clear hrd hl2 hlen hown
      go_wp2
      go_ret2
      exact ⟨A', c', by rw [HL2.out]; rfl, by rw [HL2.out]; exact HRD.out, HB1.out.trans (hbr.mono (by omega))⟩
