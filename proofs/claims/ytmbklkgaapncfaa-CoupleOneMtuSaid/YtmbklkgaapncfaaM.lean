/- The laws CoupleReports and CoupleOneMtu. -/
import Derived.Test.YtmbklkgaapncfaaJ
namespace Go.Proofs.Ytmbklkgaapncfaa.C
open Go.RowKit OpenStruct
set_option linter.unusedVariables false
set_option linter.unusedSimpArgs false
attribute [local go_sem high] max2_mx min2_mn max_two min_two
attribute [local go_sem ↓] Go.wp_at_zero Go.wp_at_succ

theorem grown (A : Option Addr) (n c : Nat) (zs : List E32) (B : Option Addr) (nb cb : Nat) (us : List Int) (m most : Int) (w : World) (hr : Fd w A n zs) (hb : Rd .i64 w B nb us) :
    Calls Try.prog 20 #[.slice A n c, .slice B nb cb, .int .i64 m, .int .i64 most] w (RetG (grownR zs us m most) (grownE zs us m most) w) := by
  by_cases h : grownE zs us m most = 0
  · exact grown_ok A n c zs B nb cb us m most w hr hb h
  · exact grown_bad A n c zs B nb cb us m most w hr hb h
theorem rgrown (A : Option Addr) (n c : Nat) (zs : List E32) (B : Option Addr) (nb cb : Nat) (us : List Int) (m most : Int) (w : World) (hr : Fd w A n zs) (hb : Rd .i64 w B nb us) :
    Calls Try.prog 21 #[.slice A n c, .slice B nb cb, .int .i64 m, .int .i64 most] w (RetG (grownR zs us m most) (grownE zs us m most) w) := by
  cases h1 : rightF zs m
  · have hE : grownE zs us m most = 130 := by unfold grownE; rw [h1]; rfl
    rw [grownR, hE]
    exact rgrown_bad1 A n c zs B nb cb us m most w hr h1
  · by_cases h2 : us.length = zs.length ∧ inB most 1 1073741824 = true
    · exact rgrown_go A n c zs B nb cb us m most w hr hb h1 h2.1 h2.2
    · have hE : grownE zs us m most = 1 := by unfold grownE; rw [if_pos h1, if_neg (fun h => h2 ⟨h.1, h.2.1⟩)]
      rw [grownR, hE]
      exact rgrown_bad2 A n c zs B nb cb us m most w hr hb h1 h2
set_option maxHeartbeats 2000000 in
theorem same (A : Option Addr) (n c : Nat) (B : Option Addr) (d : Nat) (zs : List E32) (w : World) (ha : Fd w A n zs) (hb : Fd w B n zs) :
    Calls Try.prog 22 #[.slice A n c, .slice B n d] w fun e w' => e = .returned (.bool true) ∧ Below w.heap.size w w' := by
  have hu32 := Try.underlying32
  have HA := Lib.hid ha
  have HB := Lib.hid hb
  have hn := ha.2.1
  clear ha hb
  go_enter Try.func22, Try.ntmps22
  go_wp2
  go_loopw [5] (fun i wr => ∃ k : Nat, k ≤ n ∧ i = .int .i64 k ∧ ∃ m, wr = w.drewN m) (fun i _ => n - (intOf i).toNat)
  case atStart => exact ⟨0, by omega, rfl, 0, rfl⟩
  case round =>
    obtain ⟨k, hk, rfl, m, rfl⟩ := hrel
    by_cases hlt : k < n
    · obtain ⟨ad, rfl, hcell⟩ := HA.out.2.2 (by omega)
      obtain ⟨a1, a2⟩ := hcell k hlt
      obtain ⟨bd, rfl, hcell2⟩ := HB.out.2.2 (by omega)
      obtain ⟨b1, b2⟩ := hcell2 k hlt
      have hk4 : (0 : Int) ≤ (k : Int) := by omega
      have hk5 : (k : Int) < (n : Int) := by omega
      clear hcell hcell2
      go_wp2_with fail
      go_quiet (fail)
      go_wp2
      go_roundw
      case rel => exact ⟨k + 1, by omega, by go_num, _, rfl⟩
      case measure => simp [intOf]; omega
    · go_wp2
      go_ret
      exact ⟨rfl, below_drewN _ _ _⟩

set_option maxHeartbeats 1000000 in
theorem walk_CoupleReports (a0 : Option Addr) (len0 cap0 : Nat) (z0 : List E32) (a1 : Option Addr) (len1 cap1 : Nat) (z1 : List Int) (a2 a3 : Int) (w : World) (w0 : Row32 w a0 len0 cap0 z0)
    (w1 : Rd .i64 w a1 len1 z1 ∧ (∀ x ∈ z1, (Lit.int .i64 x).wf = true) ∧ len1 ≤ cap1 ∧ (a1 = none → cap1 = 0)) (y1 : len1 * 8 ≤ 140737488351232) (w2 : (Lit.int .i64 a2).wf = true) (w3 : (Lit.int .i64 a3).wf = true) :
    Calls Try.prog 7 #[.slice a0 len0 cap0, .slice a1 len1 cap1, .int .i64 a2, .int .i64 a3] w fun e w' => e = .returned (.bool true) ∧ Below w.heap.size w w' := by
  have HR := Lib.hid (Fd.of_row w0)
  have HB := Lib.hid w1.1
  clear w0 w1 w2 w3
  go_enter Try.func7, Try.ntmps7
  go_wp2_with fail
  refine (grown _ _ _ z0 _ _ _ z1 _ _ _ HR.out HB.out).mono ?_
  rintro e w1 ⟨A1, c1, rfl, hr1, hb1⟩
  have HR1 := Lib.hid hr1
  clear hr1
  go_wp2_with fail
  refine (rgrown _ _ _ z0 _ _ _ z1 _ _ _ (Fd.below HR.out hb1) (Rd.below HB.out hb1)).mono ?_
  rintro e w2 ⟨A2, c2, rfl, hr2, hb2⟩
  have HR2 := Lib.hid hr2
  clear hr2
  go_wp2_with (first | (go_at_call 22; refine (same _ _ _ _ _ (grownR z0 z1 a2 a3) _ (Fd.below HR1.out hb2) HR2.out).mono ?_; rintro e w3 ⟨rfl, hb3⟩) | (go_at_call 11; refine (alive _).mono ?_; rintro e w4 ⟨rfl, hb4⟩))
  go_ret
  exact ⟨rfl, (by repeat (first | exact Below.refl _ _ | assumption | refine Below.drew ?_ | refine below_dN ?_ _ | refine Below.setCell ?_ (by first | omega | (simp; done) | (simp; omega)) _ | refine below_al ?_ (by first | omega | (simp; done) | (simp; omega)) _ | refine below_tr (by assumption) ?_ (by first | omega | (simp; done) | (simp; omega))))⟩

theorem grownL_at (zs : List E32) (us : List Int) (m most : Int) (n k : Nat) (hk : k < n) : gc (grownL zs us m most n) k = newC zs k m (rdI us k) most ∧ gt (grownL zs us m most n) k = gt zs k := by
  have h : (grownL zs us m most n)[k]? = some ⟨newC zs k m (rdI us k) most, gt zs k⟩ := by
    unfold grownL
    rw [List.getElem?_map, List.getElem?_range hk]
    rfl
  constructor
  · rw [gc, List.getD_eq_getElem?_getD, h]; rfl
  · rw [gt, List.getD_eq_getElem?_getD, h]; rfl
theorem share_mono {zs : List E32} {k : Nat} {x y : Int} (hT : 0 < sumT zs) (ht : 0 ≤ gt zs k) (h : x ≤ y) : shareV zs k x ≤ shareV zs k y := by
  unfold shareV
  exact Int.ediv_le_ediv hT (Int.mul_le_mul_of_nonneg_right h ht)
theorem more_share {zs : List E32} (hok : okFs zs = true) (k : Nat) (hk : k < zs.length) {m a : Int} (hm : 1 ≤ m) (ha : 0 ≤ a) : 0 ≤ moreV zs k m a ∧ moreV zs k m a ≤ shareV zs k m := by
  obtain ⟨_, _, t0, _⟩ := okFs_at hok k hk
  have hT : 0 < sumT zs := by have := gt_le_sum hok k hk; omega
  have hmn : 0 ≤ mn a m ∧ mn a m ≤ m := by rw [mn_def]; split <;> omega
  have s1 := share_le hok k hk (x := mn a m) hmn.1
  have s2 := share_le hok k hk (x := m) (by omega)
  have s3 := share_mono (zs := zs) (k := k) hT (by omega) hmn.2
  unfold moreV
  (repeat' split) <;> omega
theorem new_bound {zs : List E32} {k : Nat} {m a most : Int} (h0 : 0 ≤ moreV zs k m a) : gc zs k ≤ newC zs k m a most ∧ newC zs k m a most ≤ gc zs k + moreV zs k m a := by
  unfold newC
  rw [mx_def, mn_def]
  (repeat' split) <;> omega
def Less (zs : List E32) (m : Int) (k : Nat) (N : Int) : Prop := 0 ≤ N ∧ ∃ G, Given zs m k G ∧ N ≤ G

set_option maxHeartbeats 4000000 in
theorem walk_CoupleOneMtu (a0 : Option Addr) (len0 cap0 : Nat) (z0 : List E32) (a1 : Option Addr) (len1 cap1 : Nat) (z1 : List Int) (a2 a3 : Int) (w : World) (w0 : Row32 w a0 len0 cap0 z0)
    (w1 : Rd .i64 w a1 len1 z1 ∧ (∀ x ∈ z1, (Lit.int .i64 x).wf = true) ∧ len1 ≤ cap1 ∧ (a1 = none → cap1 = 0)) (y1 : len1 * 8 ≤ 140737488351232) (w2 : (Lit.int .i64 a2).wf = true) (w3 : (Lit.int .i64 a3).wf = true) :
    Calls Try.prog 8 #[.slice a0 len0 cap0, .slice a1 len1 cap1, .int .i64 a2, .int .i64 a3] w fun e w' => e = .returned (.bool true) ∧ Below w.heap.size w w' := by
  have hu32 := Try.underlying32
  have HR := Lib.hid (Fd.of_row w0)
  have HB := Lib.hid w1.1
  clear w0 w1 w2 w3
  by_cases hE : grownE z0 z1 a2 a3 = 0
  · rcases grown_cases z0 z1 a2 a3 with ⟨_, h2⟩ | ⟨_, _, h2⟩ | ⟨h1, h2, h3, h4, _⟩
    · rw [h2] at hE; exact absurd hE (by decide)
    · rw [h2] at hE; exact absurd hE (by decide)
    have hG : grownR z0 z1 a2 a3 = grownL z0 z1 a2 a3 z0.length := by rw [grownR, if_pos hE]
    have hrt := h1
    simp [rightF, inB] at hrt
    obtain ⟨⟨m0, m1⟩, ⟨l1, l2⟩, hok⟩ := hrt
    have HK := Lib.hid hok
    have HU := Lib.hid h4
    have hl := HR.out.1
    have HL := Lib.hid hl
    have hT := gt_le_sum hok 0 (by omega)
    have hT0 := (okFs_at hok 0 (by omega)).2.2.1
    have HT := Lib.hid (show 0 < sumT z0 by omega)
    have hn8 : len0 ≤ 8 := by omega
    clear hok h1 h2 h3 h4 l1 l2 hT hT0
    go_enter Try.func8, Try.ntmps8
    go_wp2_with fail
    refine (grown _ _ _ z0 _ _ _ z1 _ _ _ HR.out HB.out).mono ?_
    rw [hG, hE]
    rintro e w1 ⟨A1, c1, rfl, hr1, hb1⟩
    rw [grownL_len] at hr1 ⊢
    rw [HL.out] at hr1 ⊢
    have HR1 := Lib.hid hr1
    have HR0 := Lib.hid (Fd.below HR.out hb1)
    clear hr1 hE hG hl
    go_wp2
    go_loopw [11, 12] (fun s i wr => ∃ k : Nat, k ≤ len0 ∧ i = .int .i64 k ∧ (∃ N : Int, s = .int .i64 N ∧ Hid (Less z0 a2 k N)) ∧ ∃ d, wr = w1.drewN d) (fun _ i _ => len0 - (intOf i).toNat)
    case atStart => exact ⟨0, by omega, rfl, ⟨0, rfl, ⟨Int.le_refl _, 0, given_0 _ _, Int.le_refl _⟩⟩, 0, rfl⟩
    case round =>
      obtain ⟨k, hk, rfl, ⟨N, rfl, ho⟩, d, rfl⟩ := hrel
      obtain ⟨n0, G, hgG, hNG⟩ := (ho : Less z0 a2 k N)
      obtain ⟨n2, n3⟩ := given_le hgG HK.out (by rw [HL.out]; exact hk) HT.out (by omega)
      by_cases hlt : k < len0
      · have hkz : k < z0.length := by rw [HL.out]; exact hlt
        obtain ⟨c0, c9, t0, t9⟩ := okFs_at HK.out k hkz
        obtain ⟨a0', a9'⟩ := okAll_at HU.out k
        obtain ⟨e0, e1⟩ := more_share HK.out k hkz (m := a2) (a := rdI z1 k) m0 a0'
        obtain ⟨e2, e3⟩ := new_bound (zs := z0) (k := k) (m := a2) (a := rdI z1 k) (most := a3) e0
        obtain ⟨e4, e5⟩ := share_le HK.out k hkz (x := a2) (by omega)
        have hst := Lib.hid (given_s hgG hkz HT.out (by omega) (by omega))
        obtain ⟨ad, rfl, hcell⟩ := HR0.out.2.2 (by omega)
        obtain ⟨q1, q2⟩ := hcell k hlt
        obtain ⟨bd, rfl, hcell2⟩ := HR1.out.2.2 (by omega)
        obtain ⟨r1, r2⟩ := hcell2 k hlt
        rw [(grownL_at z0 z1 a2 a3 len0 k hlt).1] at r1
        rw [(grownL_at z0 z1 a2 a3 len0 k hlt).2] at r2
        have hk4 : (0 : Int) ≤ (k : Int) := by omega
        have hk5 : (k : Int) < (len0 : Int) := by omega
        have hd0 : decide (newC z0 k a2 (rdI z1 k) a3 < gc z0 k) = false := by simp; omega
        have hw1 : IntKind.i64.wrap (N + newC z0 k a2 (rdI z1 k) a3) = N + newC z0 k a2 (rdI z1 k) a3 := by rw [IntKind.wrap_i64]; omega
        have hw2 : IntKind.i64.wrap (N + newC z0 k a2 (rdI z1 k) a3 - gc z0 k) = N + newC z0 k a2 (rdI z1 k) a3 - gc z0 k := by rw [IntKind.wrap_i64]; omega
        clear hcell hcell2 hgG
        go_wp2_with fail
        go_quiet (fail)
        go_wp2_with fail
        go_quiet (fail)
        go_wp2
        go_roundw
        case rel => exact ⟨k + 1, by omega, by go_num, ⟨_, rfl, ⟨by omega, _, hst.out, by omega⟩⟩, _, rfl⟩
        case measure => simp [intOf]; omega
      · go_wp2_with (first | (go_at_call 11; refine (alive _).mono ?_; rintro e w4 ⟨rfl, hb4⟩))
        go_ret
        exact ⟨rfl, (by repeat (first | exact Below.refl _ _ | assumption | refine Below.drew ?_ | refine below_dN ?_ _ | refine Below.setCell ?_ (by first | omega | (simp; done) | (simp; omega)) _ | refine below_al ?_ (by first | omega | (simp; done) | (simp; omega)) _ | refine below_tr (by assumption) ?_ (by first | omega | (simp; done) | (simp; omega))))⟩
  · have hG : grownR z0 z1 a2 a3 = [] := by rw [grownR, if_neg hE]
    have hE' : (grownE z0 z1 a2 a3 != 0) = true := by simpa using hE
    clear hE
    go_enter Try.func8, Try.ntmps8
    go_wp2_with fail
    refine (grown _ _ _ z0 _ _ _ z1 _ _ _ HR.out HB.out).mono ?_
    rw [hG]
    rintro e w1 ⟨A1, c1, rfl, hr1, hb1⟩
    go_wp2_with (first | (go_at_call 11; refine (alive _).mono ?_; rintro e w4 ⟨rfl, hb4⟩))
    go_ret
    exact ⟨rfl, (by repeat (first | exact Below.refl _ _ | assumption | refine Below.drew ?_ | refine below_dN ?_ _ | refine Below.setCell ?_ (by first | omega | (simp; done) | (simp; omega)) _ | refine below_al ?_ (by first | omega | (simp; done) | (simp; omega)) _ | refine below_tr (by assumption) ?_ (by first | omega | (simp; done) | (simp; omega))))⟩
