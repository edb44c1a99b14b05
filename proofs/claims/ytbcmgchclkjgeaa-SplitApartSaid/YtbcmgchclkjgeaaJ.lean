/- The law SplitApart. -/
import Derived.Test.YtbcmgchclkjgeaaI
namespace Go.Proofs.Ytbcmgchclkjgeaa.C
open Go.RowKit
set_option linter.unusedVariables false
set_option linter.unusedSimpArgs false
attribute [local go_sem high] max2_mx min2_mn max_two min_two
attribute [local go_sem ↓] Go.wp_at_zero Go.wp_at_succ

/-- a store into a row of the call's own -/
theorem own_set {w : World} {base g n c : Nat} {e : TypeId} {xs : List Int} (h : w.ownsRow base e 1 (.slice (some ⟨g, 0, none⟩) n c) n (nums xs)) (k : Nat) (hk : k < n) (y : Int) :
    (w.setCell ⟨g, k, none⟩ (.int .i64 y)).ownsRow base e 1 (.slice (some ⟨g, 0, none⟩) n c) n (nums (xs.set k y)) := by
  have hl : xs.length = n := by have := h.1; simp [nums] at this; exact this
  refine ⟨by simp [nums, hl], .inr ?_⟩
  rcases h.2 with ⟨h1, _⟩ | ⟨g', cap, cur, h1, hb, hh, hcap, hm, hsz, htk⟩
  · cases h1
  injection h1 with h1 h2 h3
  obtain rfl : g = g' := by injection h1 with h1; injection h1
  refine ⟨g, cap, cur.setIfInBounds k (.int .i64 y), by rw [h3], hb, ?_, hcap, hm, by simpa using hsz, ?_⟩
  · simp [World.setCell, Array.getElem?_modify, hh]
  · have hkc : k < cur.size := by omega
    simp only [Nat.mul_one] at htk ⊢
    apply List.ext_getElem?
    intro j
    have := congrArg (fun l => l[j]?) htk
    simp only [nums, List.getElem?_map] at this
    rw [Array.toList_setIfInBounds]
    simp only [nums, List.getElem?_map, List.getElem?_take, List.getElem?_set] at this ⊢
    by_cases hj : j < n
    · rw [if_pos hj] at this ⊢
      by_cases hjk : k = j
      · subst hjk; simp [hkc, hl, hk]
      · rw [if_neg hjk, if_neg hjk]; exact this
    · rw [if_neg hj]
      have : ¬ k = j := by omega
      rw [if_neg this, List.getElem?_eq_none (by omega)]; rfl
theorem rdI_set (xs : List Int) (k j : Nat) (y : Int) : rdI (xs.set k y) j = if k = j ∧ k < xs.length then y else rdI xs j := by
  unfold rdI
  simp only [List.getD_eq_getElem?_getD, List.getElem?_set]
  by_cases h : k = j
  · subst h
    by_cases h2 : k < xs.length
    · simp [h2]
    · simp [h2]
  · simp [h]
theorem okAll_set (xs : List Int) (k : Nat) (y : Int) (h : okAll xs = true) (hy : inB y 0 1073741824 = true) : okAll (xs.set k y) = true := by
  unfold okAll at h ⊢
  rw [List.all_eq_true] at h ⊢
  intro x hx
  rcases List.mem_or_eq_of_mem_set hx with h1 | h1
  · exact h x h1
  · rw [h1]; exact hy
theorem rdI_left (b p win : Int) (xs : List Int) (k : Nat) (h : k < xs.length) : rdI (leftF b p win xs) k = mx 0 (mn (ceilB b p) (ceilB win p) - rdI xs k) := by
  unfold rdI leftF
  simp [List.getElem?_eq_getElem h]
theorem check_of {b p m : Int} {xs ys : List Int} (h : checkF b p m xs = 0) (hl : ys.length = xs.length) (ho : okAll ys = true) : checkF b p m ys = 0 := by
  obtain ⟨b0, b1, p0, p1, m0, m1, hlen, hx, hm⟩ := check_good h
  unfold checkF
  rw [if_pos hm, if_pos ⟨by rw [hl]; exact hlen, ho⟩]
theorem okAll_good {b p m : Int} {xs : List Int} (h : checkF b p m xs = 0) : okAll xs = true := by
  unfold checkF at h
  by_cases h1 : mayB b p m = true
  · rw [if_pos h1] at h
    by_cases h2 : (xs.length : Int) = p ∧ okAll xs = true
    · exact h2.2
    · rw [if_neg h2] at h; omega
  · rw [if_neg h1] at h; omega

set_option maxHeartbeats 4000000 in
set_option maxRecDepth 100000 in
theorem walk_SplitApart (a0_0 a0_1 a0_2 a1 : Int) (a2 : Option Addr) (len2 cap2 : Nat) (z2 : List Int) (a3 : Option Addr) (len3 cap3 : Nat) (z3 : List Int) (w : World) (w0_0 : (Lit.int .i64 a0_0).wf = true) (w0_1 : (Lit.int .i64 a0_1).wf = true) (w0_2 : (Lit.int .i64 a0_2).wf = true)
    (w1 : (Lit.int .i64 a1).wf = true) (w2 : Rd .i64 w a2 len2 z2 ∧ (∀ x ∈ z2, (Lit.int .i64 x).wf = true) ∧ len2 ≤ cap2 ∧ (a2 = none → cap2 = 0)) (y2 : len2 * 8 ≤ 140737488351232)
    (w3 : Rd .i64 w a3 len3 z3 ∧ (∀ x ∈ z3, (Lit.int .i64 x).wf = true) ∧ len3 ≤ cap3 ∧ (a3 = none → cap3 = 0)) (y3 : len3 * 8 ≤ 140737488351232) :
    Calls Try.prog 4 #[.agg #[.int .i64 a0_0, .int .i64 a0_1, .int .i64 a0_2], .int .i64 a1, .slice a2 len2 cap2, .slice a3 len3 cap3] w fun e w' => e = .returned (.bool true) ∧ Below w.heap.size w w' := by
  have HR := Lib.hid w2.1
  have HA := Lib.hid w2.2.2.2
  have HR3 := Lib.hid w3.1
  obtain ⟨i0, hi0, hz0, hz1, hz2⟩ := info_parts info3
  clear w3 w0_0 w0_1 w0_2 w1 w2
  have hu23 := Try.underlying23
  by_cases hg : checkF a0_0 a0_1 a0_2 z2 = 0 ∧ 0 ≤ a1 ∧ a1 < a0_1
  · obtain ⟨hck, k0, k1⟩ := hg
    obtain ⟨b0, b1, p0, p1, m0, m1, hlen, hx, _⟩ := check_good hck
    obtain ⟨k, rfl⟩ := Int.eq_ofNat_of_zero_le k0
    have hl := HR.out.1
    have hkn : k < len2 := by omega
    have HX := Lib.hid hx
    have HLEN := Lib.hid hlen
    have HL := Lib.hid hl
    have HCK := Lib.hid hck
    have hn8 : len2 ≤ 8 := by omega
    have hln : (len2 : Int) = a0_1 := by omega
    have HLN := Lib.hid hln
    clear hlen hx hck hl hln
    go_enter Try.func4, Try.ntmps4
    go_wp2_with fail
    refine (awake _).mono ?_
    rintro e w1 ⟨rfl, hb1⟩
    obtain ⟨c1, f1⟩ := bcell hb1
    have z1 : w.heap.size < w1.heap.size := by have := hb1.size; simp at this; omega
    go_wp2_with fail
    refine (rcheck _ _ _ _ _ _ _ _ (Rd.below HR.out (by repeat (first | exact Below.refl _ _ | assumption | refine Below.drew ?_ | refine below_dN ?_ _ | refine Below.setCell ?_ (by first | omega | (simp; done) | (simp; omega)) _ | refine below_al ?_ (by first | omega | (simp; done) | (simp; omega)) _ | refine below_tr (by assumption) ?_ (by first | omega | (simp; done) | (simp; omega)))))).mono ?_
    rw [HCK.out]
    rintro e w2 ⟨rfl, hb2⟩
    obtain ⟨c2, f2⟩ := bcell hb2
    have z2' : w.heap.size < w2.heap.size := by have := hb2.size; omega
    have hB2 : Below w.heap.size w w2 := (by repeat (first | exact Below.refl _ _ | assumption | refine Below.drew ?_ | refine below_dN ?_ _ | refine Below.setCell ?_ (by first | omega | (simp; done) | (simp; omega)) _ | refine below_al ?_ (by first | omega | (simp; done) | (simp; omega)) _ | refine below_tr (by assumption) ?_ (by first | omega | (simp; done) | (simp; omega))))
    have q0 : w2.cell? ⟨w.heap.size, 0, none⟩ = some (.int .i64 a0_0) := by simp [go_sem, c1, c2, z1, z2']
    have q1 : w2.cell? ⟨w.heap.size, 1, none⟩ = some (.int .i64 a0_1) := by simp [go_sem, c1, c2, z1, z2']
    have q2 : w2.cell? ⟨w.heap.size, 2, none⟩ = some (.int .i64 a0_2) := by simp [go_sem, c1, c2, z1, z2']
    clear c1 c2 f1 f2
    go_wp2_with (at_builtin; go_must (refine wpList_append_rd rfl _ _ _ rfl w2.heap.size 3 i0 Try.underlying29 hi0 hz0 hz1 hz2 _ 0 [] rfl (own_empty w2 w2.heap.size 3 (Nat.le_refl _)) a2 len2 cap2 z2 rfl (Rd.below HR.out (by repeat (first | exact Below.refl _ _ | assumption | refine Below.drew ?_ | refine below_dN ?_ _ | refine Below.setCell ?_ (by first | omega | (simp; done) | (simp; omega)) _ | refine below_al ?_ (by first | omega | (simp; done) | (simp; omega)) _ | refine below_tr (by assumption) ?_ (by first | omega | (simp; done) | (simp; omega))))) HA.out (by omega) (by simp) ?_; intro v2 w3 hown0 hg; have hb3 : Below w2.heap.size w2 w3 := below_app (W := w2.alloc (.cells #[] 3)) (by repeat (first | exact Below.refl _ _ | assumption | refine Below.drew ?_ | refine below_dN ?_ _ | refine Below.setCell ?_ (by first | omega | (simp; done) | (simp; omega)) _ | refine below_al ?_ (by first | omega | (simp; done) | (simp; omega)) _ | refine below_tr (by assumption) ?_ (by first | omega | (simp; done) | (simp; omega)))) (by simp) (own_empty w2 w2.heap.size 3 (Nat.le_refl _)) hg; have hown : w3.ownsRow w2.heap.size 3 1 v2 len2 (nums z2) := (by simpa using hown0); obtain ⟨g, c3, rfl⟩ := own_some hown (by omega); have HOWN := Lib.hid hown; have z3' : w.heap.size < w3.heap.size := (by have := hb3.size; omega); clear hown hown0 hg))
    go_loopw [10] (fun i wr => ∃ (j : Nat) (ys : List Int), j ≤ len2 ∧ i = .int .i64 j ∧ wr.ownsRow w2.heap.size 3 1 (.slice (some ⟨g, 0, none⟩) len2 c3) len2 (nums ys) ∧ Hid (ys.length = z2.length ∧ okAll ys = true ∧ rdI ys k = rdI z2 k) ∧ Below w2.heap.size w2 wr) (fun i _ => len2 - (intOf i).toNat)
    case atStart => exact ⟨0, z2, by omega, rfl, HOWN.out, ⟨rfl, okAll_good HCK.out, rfl⟩, hb3⟩
    case round =>
      obtain ⟨j, ys, hj, rfl, hown, hys, hbr⟩ := hrel
      have hsz := hbr.size
      by_cases hlt : j < len2 ∧ j < len3
      · obtain ⟨hlt2, hlt3⟩ := hlt
        have hB : Below w.heap.size w wr := (by repeat (first | exact Below.refl _ _ | assumption | refine Below.drew ?_ | refine below_dN ?_ _ | refine Below.setCell ?_ (by first | omega | (simp; done) | (simp; omega)) _ | refine below_al ?_ (by first | omega | (simp; done) | (simp; omega)) _ | refine below_tr (by assumption) ?_ (by first | omega | (simp; done) | (simp; omega))))
        obtain ⟨ad, rfl, hcell⟩ := HR3.out.2.2 (by omega)
        have hck := hcell j hlt3
        have hck' : wr.cell? (ad.add j) = some (.int .i64 (rdI z3 j)) := by rw [hB.cell (World.block_lt_of_cell? w _ hck)]; exact hck
        obtain ⟨oc, of, ob, ol, os⟩ := own_cell hown j hlt2
        rw [add_plain] at oc of os
        have HOS := Lib.hid (own_set hown j hlt2 (rdI z3 j))
        have HOWN' := Lib.hid hown
        clear hcell os hown
        by_cases hjk : j = k
        · have hne : ((j : Int) != (k : Int)) = false := by simp [hjk]
          go_wp2
          go_roundw
          case rel => exact ⟨j + 1, ys, by omega, by go_num, HOWN'.out, hys, hbr⟩
          case measure => simp [intOf]; omega
        · have hne : ((j : Int) != (k : Int)) = true := by simp; omega
          by_cases hlo : 0 ≤ rdI z3 j
          · by_cases hhi : rdI z3 j ≤ 1073741824
            · have HN : Hid ((ys.set j (rdI z3 j)).length = z2.length ∧ okAll (ys.set j (rdI z3 j)) = true ∧ rdI (ys.set j (rdI z3 j)) k = rdI z2 k) := by
                obtain ⟨g1, g2, g3⟩ := hys.out
                exact ⟨by simpa using g1, okAll_set _ _ _ g2 (by unfold inB; simp; omega), by rw [rdI_set, if_neg (fun h => hjk h.1)]; exact g3⟩
              go_wp2
              go_roundw
              case rel => exact ⟨j + 1, ys.set j (rdI z3 j), by omega, by go_num, HOS.out, HN, (by repeat (first | exact Below.refl _ _ | assumption | refine Below.drew ?_ | refine below_dN ?_ _ | refine Below.setCell ?_ (by first | omega | (simp; done) | (simp; omega)) _ | refine below_al ?_ (by first | omega | (simp; done) | (simp; omega)) _ | refine below_tr (by assumption) ?_ (by first | omega | (simp; done) | (simp; omega))))⟩
              case measure => simp [intOf]; omega
            · go_wp2
              go_roundw
              case rel => exact ⟨j + 1, ys, by omega, by go_num, HOWN'.out, hys, hbr⟩
              case measure => simp [intOf]; omega
          · go_wp2
            go_roundw
            case rel => exact ⟨j + 1, ys, by omega, by go_num, HOWN'.out, hys, hbr⟩
            case measure => simp [intOf]; omega
      · have hz4 : w.heap.size < wr.heap.size := by omega
        have r0 : wr.cell? ⟨w.heap.size, 0, none⟩ = some (.int .i64 a0_0) := by rw [hbr.cell (p := ⟨w.heap.size, 0, none⟩) z2']; exact q0
        have r1 : wr.cell? ⟨w.heap.size, 1, none⟩ = some (.int .i64 a0_1) := by rw [hbr.cell (p := ⟨w.heap.size, 1, none⟩) z2']; exact q1
        have r2 : wr.cell? ⟨w.heap.size, 2, none⟩ = some (.int .i64 a0_2) := by rw [hbr.cell (p := ⟨w.heap.size, 2, none⟩) z2']; exact q2
        obtain ⟨A', c', hA', hry⟩ := Rd_own hown
        obtain ⟨g1, g2, g3⟩ := hys.out
        have hcy := check_of (b := a0_0) (p := a0_1) (m := a0_2) HCK.out g1 g2
        have hly : ys.length = len2 := by rw [g1]; exact HL.out
        have hin : inB (k : Int) 0 (a0_1 - 1) = true := by unfold inB; simp; omega
        have hw : inB a0_0 0 1073741824 = true := by unfold inB; simp; omega
        obtain ⟨ex1, ex2⟩ := mayE_ok (path := (k : Int)) HCK.out hin
        obtain ⟨ey1, ey2⟩ := mayE_ok (path := (k : Int)) hcy hin
        have hyx : ∀ x ∈ ys, 0 ≤ x ∧ x ≤ 1073741824 := (check_good hcy).2.2.2.2.2.2.2.1
        have hV : mayV a0_0 a0_1 a0_2 k ys = mayV a0_0 a0_1 a0_2 k z2 := by rw [ey2, ex2]; simp only [Int.toNat_natCast, g3]
        have hm1 := fun W hr => pmay a0_0 a0_1 a0_2 k a2 len2 cap2 z2 W hr
        have hm2 := fun W hr => pmay a0_0 a0_1 a0_2 k A' len2 c' ys W hr
        rw [ex1] at hm1
        rw [ey1, hV] at hm2
        have hfin : (mayV a0_0 a0_1 a0_2 k z2 == decide (0 < mx 0 (mn (ceilB a0_0 a0_1) (ceilB a0_0 a0_1) - rdI z2 k))) = true := by
          rw [ex2]
          simp only [Int.toNat_natCast, mx_def, mn_def, Int.le_refl, if_true]
          rw [beq_iff_eq, decide_eq_decide]
          split <;> omega
        have hlx : rdI (leftF a0_0 a0_1 a0_0 z2) k = mx 0 (mn (ceilB a0_0 a0_1) (ceilB a0_0 a0_1) - rdI z2 k) := rdI_left _ _ _ _ _ (by rw [HL.out]; exact hkn)
        have hlyk : rdI (leftF a0_0 a0_1 a0_0 ys) k = mx 0 (mn (ceilB a0_0 a0_1) (ceilB a0_0 a0_1) - rdI z2 k) := by rw [rdI_left _ _ _ _ _ (by rw [hly]; exact hkn), g3]
        have hf1 : (leftF a0_0 a0_1 a0_0 z2).length = len2 := by unfold leftF; rw [List.length_map, HL.out]
        have hf2 : (leftF a0_0 a0_1 a0_0 ys).length = len2 := by unfold leftF; rw [List.length_map, hly]
        generalize mayV a0_0 a0_1 a0_2 k z2 = V at hm1 hm2 hfin
        generalize mx 0 (mn (ceilB a0_0 a0_1) (ceilB a0_0 a0_1) - rdI z2 k) = Lx at hfin hlx hlyk
        have hd1 := fun W hr => left_ok a0_0 a0_1 a0_2 a0_0 a2 len2 cap2 z2 W hr HCK.out hw (by omega) b1 p0 p1 hn8 HX.out
        have hd2 := fun W hr => left_ok a0_0 a0_1 a0_2 a0_0 A' len2 c' ys W hr hcy hw (by omega) b1 p0 p1 hn8 hyx
        have HM1 := Lib.hid hm1
        have HM2 := Lib.hid hm2
        have HD1 := Lib.hid hd1
        have HD2 := Lib.hid hd2
        have HLX := Lib.hid hlx
        have HLYK := Lib.hid hlyk
        have HF1 := Lib.hid hf1
        have HF2 := Lib.hid hf2
        have HRY := Lib.hid hry
        have HCY := Lib.hid hcy
        have HLY := Lib.hid hly
        have HYX := Lib.hid hyx
        have HG3 := Lib.hid g3
        injection hA' with hA1 hA2 hA3
        subst hA1
        subst hA3
        clear hm1 hm2 hd1 hd2 hV hlx hlyk hf1 hf2 hry hcy hly hyx g1 g2 g3 ex1 ex2 ey1 ey2 hown hys q0 q1 q2 hin hw
        have hnat : j < len2 → ¬ j < len3 := fun h h' => hlt ⟨h, h'⟩
        have HNAT := Lib.hid hnat
        clear hnat hlt
        by_cases hj2 : j < len2
        · have hj3 := HNAT.out hj2
          go_wp2_with fail
          refine (HM1.out _ (Rd.below HR.out (by repeat (first | exact Below.refl _ _ | assumption | refine Below.drew ?_ | refine below_dN ?_ _ | refine Below.setCell ?_ (by first | omega | (simp; done) | (simp; omega)) _ | refine below_al ?_ (by first | omega | (simp; done) | (simp; omega)) _ | refine below_tr (by assumption) ?_ (by first | omega | (simp; done) | (simp; omega)))))).mono ?_
          rintro e w4 ⟨rfl, hb4⟩
          obtain ⟨c4, f4⟩ := bcell hb4
          have z4 : w.heap.size < w4.heap.size := by have := hb4.size; omega
          go_wp2_with fail
          refine (HM2.out _ (Rd.below HRY.out hb4)).mono ?_
          rintro e w5 ⟨rfl, hb5⟩
          obtain ⟨c5, f5⟩ := bcell hb5
          have z5 : w.heap.size < w5.heap.size := by have := hb5.size; omega
          have hB5 : Below wr.heap.size wr w5 := (by repeat (first | exact Below.refl _ _ | assumption | refine Below.drew ?_ | refine below_dN ?_ _ | refine Below.setCell ?_ (by first | omega | (simp; done) | (simp; omega)) _ | refine below_al ?_ (by first | omega | (simp; done) | (simp; omega)) _ | refine below_tr (by assumption) ?_ (by first | omega | (simp; done) | (simp; omega))))
          go_wp2_with fail
          refine (HD1.out _ (Rd.below HR.out (by repeat (first | exact Below.refl _ _ | assumption | refine Below.drew ?_ | refine below_dN ?_ _ | refine Below.setCell ?_ (by first | omega | (simp; done) | (simp; omega)) _ | refine below_al ?_ (by first | omega | (simp; done) | (simp; omega)) _ | refine below_tr (by assumption) ?_ (by first | omega | (simp; done) | (simp; omega)))))).mono ?_
          rintro e w6 ⟨A6, c6', rfl, hr6, hb6⟩
          rw [HF1.out] at hr6 ⊢
          obtain ⟨c6, f6⟩ := bcell hb6
          have z6 : w.heap.size < w6.heap.size := by have := hb6.size; omega
          have HR6 := Lib.hid hr6
          clear hr6
          go_wp2_with fail
          refine (HD2.out _ (Rd.below HRY.out (by repeat (first | exact Below.refl _ _ | assumption | refine Below.drew ?_ | refine below_dN ?_ _ | refine Below.setCell ?_ (by first | omega | (simp; done) | (simp; omega)) _ | refine below_al ?_ (by first | omega | (simp; done) | (simp; omega)) _ | refine below_tr (by assumption) ?_ (by first | omega | (simp; done) | (simp; omega)))))).mono ?_
          rintro e w7 ⟨A7, c7', rfl, hr7, hb7⟩
          rw [HF2.out] at hr7 ⊢
          obtain ⟨c7, f7⟩ := bcell hb7
          have z7 : w.heap.size < w7.heap.size := by have := hb7.size; omega
          obtain ⟨ad6, rfl, hcc6⟩ := (Rd.below HR6.out hb7).2.2 (by omega)
          obtain ⟨ad7, rfl, hcc7⟩ := hr7.2.2 (by omega)
          have hl6 := hcc6 k hkn
          have hl7 := hcc7 k hkn
          rw [HLX.out] at hl6
          rw [HLYK.out] at hl7
          have hk4 : (0 : Int) ≤ (k : Int) := by omega
          have hk5 : (k : Int) < (len2 : Int) := by have := HLN.out; omega
          have hHLN := HLN.out
          have hne : ((len2 : Int) != a0_1) = false := by simpa using hHLN
          have hB7 : Below w.heap.size w w7 := (by repeat (first | exact Below.refl _ _ | assumption | refine Below.drew ?_ | refine below_dN ?_ _ | refine Below.setCell ?_ (by first | omega | (simp; done) | (simp; omega)) _ | refine below_al ?_ (by first | omega | (simp; done) | (simp; omega)) _ | refine below_tr (by assumption) ?_ (by first | omega | (simp; done) | (simp; omega))))
          clear hcc6 hcc7 hr7 hHLN
          go_wp2_with fail
          go_quiet (fail)
          go_wp2
          go_ret
          exact ⟨ret_bool (by first | assumption | simp), below_dN hB7 _⟩
        · go_wp2_with fail
          refine (HM1.out _ (Rd.below HR.out (by repeat (first | exact Below.refl _ _ | assumption | refine Below.drew ?_ | refine below_dN ?_ _ | refine Below.setCell ?_ (by first | omega | (simp; done) | (simp; omega)) _ | refine below_al ?_ (by first | omega | (simp; done) | (simp; omega)) _ | refine below_tr (by assumption) ?_ (by first | omega | (simp; done) | (simp; omega)))))).mono ?_
          rintro e w4 ⟨rfl, hb4⟩
          obtain ⟨c4, f4⟩ := bcell hb4
          have z4 : w.heap.size < w4.heap.size := by have := hb4.size; omega
          go_wp2_with fail
          refine (HM2.out _ (Rd.below HRY.out hb4)).mono ?_
          rintro e w5 ⟨rfl, hb5⟩
          obtain ⟨c5, f5⟩ := bcell hb5
          have z5 : w.heap.size < w5.heap.size := by have := hb5.size; omega
          have hB5 : Below wr.heap.size wr w5 := (by repeat (first | exact Below.refl _ _ | assumption | refine Below.drew ?_ | refine below_dN ?_ _ | refine Below.setCell ?_ (by first | omega | (simp; done) | (simp; omega)) _ | refine below_al ?_ (by first | omega | (simp; done) | (simp; omega)) _ | refine below_tr (by assumption) ?_ (by first | omega | (simp; done) | (simp; omega))))
          go_wp2_with fail
          refine (HD1.out _ (Rd.below HR.out (by repeat (first | exact Below.refl _ _ | assumption | refine Below.drew ?_ | refine below_dN ?_ _ | refine Below.setCell ?_ (by first | omega | (simp; done) | (simp; omega)) _ | refine below_al ?_ (by first | omega | (simp; done) | (simp; omega)) _ | refine below_tr (by assumption) ?_ (by first | omega | (simp; done) | (simp; omega)))))).mono ?_
          rintro e w6 ⟨A6, c6', rfl, hr6, hb6⟩
          rw [HF1.out] at hr6 ⊢
          obtain ⟨c6, f6⟩ := bcell hb6
          have z6 : w.heap.size < w6.heap.size := by have := hb6.size; omega
          have HR6 := Lib.hid hr6
          clear hr6
          go_wp2_with fail
          refine (HD2.out _ (Rd.below HRY.out (by repeat (first | exact Below.refl _ _ | assumption | refine Below.drew ?_ | refine below_dN ?_ _ | refine Below.setCell ?_ (by first | omega | (simp; done) | (simp; omega)) _ | refine below_al ?_ (by first | omega | (simp; done) | (simp; omega)) _ | refine below_tr (by assumption) ?_ (by first | omega | (simp; done) | (simp; omega)))))).mono ?_
          rintro e w7 ⟨A7, c7', rfl, hr7, hb7⟩
          rw [HF2.out] at hr7 ⊢
          obtain ⟨c7, f7⟩ := bcell hb7
          have z7 : w.heap.size < w7.heap.size := by have := hb7.size; omega
          obtain ⟨ad6, rfl, hcc6⟩ := (Rd.below HR6.out hb7).2.2 (by omega)
          obtain ⟨ad7, rfl, hcc7⟩ := hr7.2.2 (by omega)
          have hl6 := hcc6 k hkn
          have hl7 := hcc7 k hkn
          rw [HLX.out] at hl6
          rw [HLYK.out] at hl7
          have hk4 : (0 : Int) ≤ (k : Int) := by omega
          have hk5 : (k : Int) < (len2 : Int) := by have := HLN.out; omega
          have hHLN := HLN.out
          have hne : ((len2 : Int) != a0_1) = false := by simpa using hHLN
          have hB7 : Below w.heap.size w w7 := (by repeat (first | exact Below.refl _ _ | assumption | refine Below.drew ?_ | refine below_dN ?_ _ | refine Below.setCell ?_ (by first | omega | (simp; done) | (simp; omega)) _ | refine below_al ?_ (by first | omega | (simp; done) | (simp; omega)) _ | refine below_tr (by assumption) ?_ (by first | omega | (simp; done) | (simp; omega))))
          clear hcc6 hcc7 hr7 hHLN
          go_wp2_with fail
          go_quiet (fail)
          go_wp2
          go_ret
          exact ⟨ret_bool (by first | assumption | simp), below_dN hB7 _⟩
  · have hcf : checkF a0_0 a0_1 a0_2 z2 ≠ 0 ∨ (checkF a0_0 a0_1 a0_2 z2 = 0 ∧ a1 < 0) ∨ (checkF a0_0 a0_1 a0_2 z2 = 0 ∧ ¬ a1 < 0 ∧ a0_1 ≤ a1) := by
      by_cases h1 : checkF a0_0 a0_1 a0_2 z2 = 0
      · by_cases h2 : a1 < 0
        · exact .inr (.inl ⟨h1, h2⟩)
        · exact .inr (.inr ⟨h1, h2, by have : ¬ (0 ≤ a1 ∧ a1 < a0_1) := fun h => hg ⟨h1, h⟩; omega⟩)
      · exact .inl h1
    clear hg
    rcases hcf with h1 | ⟨h1, h2⟩ | ⟨h1, h2, h3⟩
    · have h1' : (checkF a0_0 a0_1 a0_2 z2 != 0) = true := by simpa using h1
      clear h1
      go_enter Try.func4, Try.ntmps4
      go_wp2_with fail
      refine (awake _).mono ?_
      rintro e w1 ⟨rfl, hb1⟩
      obtain ⟨c1, f1⟩ := bcell hb1
      go_wp2_with fail
      refine (rcheck _ _ _ _ _ _ _ _ (Rd.below HR.out (by repeat (first | exact Below.refl _ _ | assumption | refine Below.drew ?_ | refine below_dN ?_ _ | refine Below.setCell ?_ (by first | omega | (simp; done) | (simp; omega)) _ | refine below_al ?_ (by first | omega | (simp; done) | (simp; omega)) _ | refine below_tr (by assumption) ?_ (by first | omega | (simp; done) | (simp; omega)))))).mono ?_
      rintro e w2 ⟨rfl, hb2⟩
      go_wp2
      go_ret
      exact ⟨rfl, (by repeat (first | exact Below.refl _ _ | assumption | refine Below.drew ?_ | refine below_dN ?_ _ | refine Below.setCell ?_ (by first | omega | (simp; done) | (simp; omega)) _ | refine below_al ?_ (by first | omega | (simp; done) | (simp; omega)) _ | refine below_tr (by assumption) ?_ (by first | omega | (simp; done) | (simp; omega))))⟩
    · have HCK := Lib.hid h1
      clear h1
      go_enter Try.func4, Try.ntmps4
      go_wp2_with fail
      refine (awake _).mono ?_
      rintro e w1 ⟨rfl, hb1⟩
      obtain ⟨c1, f1⟩ := bcell hb1
      go_wp2_with fail
      refine (rcheck _ _ _ _ _ _ _ _ (Rd.below HR.out (by repeat (first | exact Below.refl _ _ | assumption | refine Below.drew ?_ | refine below_dN ?_ _ | refine Below.setCell ?_ (by first | omega | (simp; done) | (simp; omega)) _ | refine below_al ?_ (by first | omega | (simp; done) | (simp; omega)) _ | refine below_tr (by assumption) ?_ (by first | omega | (simp; done) | (simp; omega)))))).mono ?_
      rw [HCK.out]
      rintro e w2 ⟨rfl, hb2⟩
      go_wp2
      go_ret
      exact ⟨rfl, (by repeat (first | exact Below.refl _ _ | assumption | refine Below.drew ?_ | refine below_dN ?_ _ | refine Below.setCell ?_ (by first | omega | (simp; done) | (simp; omega)) _ | refine below_al ?_ (by first | omega | (simp; done) | (simp; omega)) _ | refine below_tr (by assumption) ?_ (by first | omega | (simp; done) | (simp; omega))))⟩
    · have HCK := Lib.hid h1
      clear h1
      go_enter Try.func4, Try.ntmps4
      go_wp2_with fail
      refine (awake _).mono ?_
      rintro e w1 ⟨rfl, hb1⟩
      obtain ⟨c1, f1⟩ := bcell hb1
      have z1 : w.heap.size < w1.heap.size := by have := hb1.size; simp at this; omega
      go_wp2_with fail
      refine (rcheck _ _ _ _ _ _ _ _ (Rd.below HR.out (by repeat (first | exact Below.refl _ _ | assumption | refine Below.drew ?_ | refine below_dN ?_ _ | refine Below.setCell ?_ (by first | omega | (simp; done) | (simp; omega)) _ | refine below_al ?_ (by first | omega | (simp; done) | (simp; omega)) _ | refine below_tr (by assumption) ?_ (by first | omega | (simp; done) | (simp; omega)))))).mono ?_
      rw [HCK.out]
      rintro e w2 ⟨rfl, hb2⟩
      obtain ⟨c2, f2⟩ := bcell hb2
      go_wp2
      go_ret
      exact ⟨rfl, (by repeat (first | exact Below.refl _ _ | assumption | refine Below.drew ?_ | refine below_dN ?_ _ | refine Below.setCell ?_ (by first | omega | (simp; done) | (simp; omega)) _ | refine below_al ?_ (by first | omega | (simp; done) | (simp; omega)) _ | refine below_tr (by assumption) ?_ (by first | omega | (simp; done) | (simp; omega))))⟩
