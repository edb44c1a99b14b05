/- Grown, as the program has it. -/
import Derived.Test.YtmbklkgaapncfaaH
namespace Go.Proofs.Ytmbklkgaapncfaa.C
open Go.RowKit OpenStruct
set_option linter.unusedVariables false
set_option linter.unusedSimpArgs false
attribute [local go_sem high] max2_mx min2_mn max_two min_two
attribute [local go_sem ↓] Go.wp_at_zero Go.wp_at_succ

theorem more_le {zs : List E32} (h : okFs zs = true) (k : Nat) (hk : k < zs.length) {m a : Int} (hm0 : 1 ≤ m) (hm1 : m ≤ 65536) (h0 : 0 ≤ a) : 0 ≤ moreV zs k m a ∧ moreV zs k m a ≤ 65536 := by
  unfold moreV
  have hmn : 0 ≤ mn a m ∧ mn a m ≤ m := by rw [mn_def]; split <;> omega
  have s1 := share_le h k hk (x := mn a m) hmn.1
  have s2 := share_le h k hk (x := m) (by omega)
  (repeat' split) <;> omega
theorem own_stored {w : World} {base g n c : Nat} {zs : List E32} {us : List Int} {m most : Int} {k : Nat} (h : w.ownsRow base 32 2 (.slice (some ⟨g, 0, none⟩) n c) n (fcells (toGrow zs us m most k))) (hk : k < zs.length) :
    (w.setCell ⟨g, k * 2, none⟩ (.int .i64 (newC zs k m (rdI us k) most))).ownsRow base 32 2 (.slice (some ⟨g, 0, none⟩) n c) n (fcells (toGrow zs us m most (k + 1))) := by
  have h1 := (h.stored (k * 2) (.int .i64 (newC zs k m (rdI us k) most))).1
  rw [fcells_set _ _ _ (by rw [toGrow_len _ _ _ _ _ (by omega)]; exact hk), toGrow_s zs us m most k hk] at h1
  exact h1
theorem own_stored' {w : World} {base g n c : Nat} {zs : List E32} {us : List Int} {m most y : Int} {k : Nat} (h : w.ownsRow base 32 2 (.slice (some ⟨g, 0, none⟩) n c) n (fcells (toGrow zs us m most k))) (hk : k < zs.length) (hy : newC zs k m (rdI us k) most = y) :
    (w.setCell ⟨g, k * 2, none⟩ (.int .i64 y)).ownsRow base 32 2 (.slice (some ⟨g, 0, none⟩) n c) n (fcells (toGrow zs us m most (k + 1))) := by
  subst hy
  exact own_stored h hk
theorem own_base {w : World} {base g n c : Nat} {e : TypeId} {s : Nat} {xs : List Value} (h : w.ownsRow base e s (.slice (some ⟨g, 0, none⟩) n c) n xs) : base ≤ g ∧ g < w.heap.size ∧ n ≤ c := by
  rcases h.2 with ⟨h1, _⟩ | ⟨g', cap, cur, h1, hb, hh, hcap, _⟩
  · cases h1
  injection h1 with h1 h2 h3
  obtain rfl : g = g' := by injection h1 with h1; injection h1
  exact ⟨hb, (Array.getElem?_eq_some_iff.1 hh).1, by omega⟩

set_option maxHeartbeats 4000000 in
theorem grown_ok (A : Option Addr) (n c : Nat) (zs : List E32) (B : Option Addr) (nb cb : Nat) (us : List Int) (m most : Int) (w : World) (hr : Fd w A n zs) (hb : Rd .i64 w B nb us) (hE : grownE zs us m most = 0) :
    Calls Try.prog 20 #[.slice A n c, .slice B nb cb, .int .i64 m, .int .i64 most] w (RetG (grownR zs us m most) (grownE zs us m most) w) := by
  have hu32 := Try.underlying32
  have hu49 := Try.underlying49
  have hu51 := Try.underlying51
  have HR := Lib.hid hr
  have HB := Lib.hid hb
  rw [grownR, if_pos hE, hE]
  rcases grown_cases zs us m most with ⟨_, h2⟩ | ⟨_, _, h2⟩ | ⟨h1, h2, h3, h4, _⟩
  · rw [h2] at hE; exact absurd hE (by decide)
  · rw [h2] at hE; exact absurd hE (by decide)
  clear hE
  have hlz := hr.1
  have hlu := hb.1
  have hnb : nb = n := by omega
  have hrt := h1
  simp [rightF, inB] at hrt
  obtain ⟨⟨m0, m1⟩, ⟨l1, l2⟩, hok⟩ := hrt
  obtain ⟨o0, o1⟩ := inB_t h3
  have HK := Lib.hid hok
  have HU := Lib.hid h4
  have HL := Lib.hid hlz
  have H1 := Lib.hid h1
  have hn1 : 1 ≤ n := by omega
  have hn8 : n ≤ 8 := by omega
  have hokA : (!okAll us) = false := by rw [h4]; rfl
  subst hnb
  clear hr hb h1 h2 h3 h4 hok hlu l1 l2 hlz
  go_enter Try.func20, Try.ntmps20
  go_wp2_with fail
  refine (right _ _ _ zs _ _ (Fd.below HR.out (by repeat (first | exact Below.refl _ _ | assumption | refine Below.drew ?_ | refine below_dN ?_ _ | refine Below.setCell ?_ (by first | omega | (simp; done) | (simp; omega)) _ | refine below_al ?_ (by first | omega | (simp; done) | (simp; omega)) _ | refine below_tr (by assumption) ?_ (by first | omega | (simp; done) | (simp; omega)))))).mono ?_
  rw [H1.out]
  rintro e w1 ⟨rfl, hb1⟩
  obtain ⟨c1, f1⟩ := bcell hb1
  have z1 : w.heap.size < w1.heap.size := by have := hb1.size; simp at this; omega
  have p0 : w1.cell? ⟨w.heap.size, 0, none⟩ = some (.slice A nb c) := by simp [go_sem, c1]
  have p1 : w1.cell? ⟨w.heap.size, 1, none⟩ = some (.int .i64 m) := by simp [go_sem, c1]
  clear c1 f1
  go_wp2_with (first | (go_at_call 32; refine (ncontains _ _ _ us _ (Rd.below HB.out (by repeat (first | exact Below.refl _ _ | assumption | refine Below.drew ?_ | refine below_dN ?_ _ | refine Below.setCell ?_ (by first | omega | (simp; done) | (simp; omega)) _ | refine below_al ?_ (by first | omega | (simp; done) | (simp; omega)) _ | refine below_tr (by assumption) ?_ (by first | omega | (simp; done) | (simp; omega)))))).mono ?_; rw [hokA]; rintro e w' ⟨rfl, rfl⟩))
  refine (clone _ _ _ zs _ (Fd.below HR.out (by repeat (first | exact Below.refl _ _ | assumption | refine Below.drew ?_ | refine below_dN ?_ _ | refine Below.setCell ?_ (by first | omega | (simp; done) | (simp; omega)) _ | refine below_al ?_ (by first | omega | (simp; done) | (simp; omega)) _ | refine below_tr (by assumption) ?_ (by first | omega | (simp; done) | (simp; omega))))) (by omega) (by omega)).mono ?_
  rintro e w2 ⟨g, cg, rfl, hown, hb2⟩
  obtain ⟨c2, f2⟩ := bcell hb2
  have hlz := HL.out
  rw [hlz] at hown ⊢
  have HO := Lib.hid hown
  have q0 : w2.cell? ⟨w.heap.size, 0, none⟩ = some (.slice A nb c) := by simp [go_sem, c2, p0, z1]
  have q1 : w2.cell? ⟨w.heap.size, 1, none⟩ = some (.int .i64 m) := by simp [go_sem, c2, p1, z1]
  have hbw2 : Below w.heap.size w w2 := (by repeat (first | exact Below.refl _ _ | assumption | refine Below.drew ?_ | refine below_dN ?_ _ | refine Below.setCell ?_ (by first | omega | (simp; done) | (simp; omega)) _ | refine below_al ?_ (by first | omega | (simp; done) | (simp; omega)) _ | refine below_tr (by assumption) ?_ (by first | omega | (simp; done) | (simp; omega))))
  have z2 : w1.heap.size ≤ w2.heap.size := hb2.size
  clear c2 f2 hown
  go_wp2
  go_loopw [44] (fun i wr => ∃ k : Nat, k ≤ nb ∧ i = .int .i64 k ∧ wr.ownsRow w1.heap.size 32 2 (.slice (some ⟨g, 0, none⟩) nb cg) nb (fcells (toGrow zs us m most k)) ∧ Below w1.heap.size w2 wr) (fun i _ => nb - (intOf i).toNat)
  case atStart => exact ⟨0, by omega, rfl, by rw [toGrow_0]; exact HO.out, Below.refl _ _⟩
  case round =>
    obtain ⟨k, hk, rfl, hown, hbr⟩ := hrel
    have HO := Lib.hid hown
    obtain ⟨g1, g2, g3⟩ := own_base hown
    have hB : Below w.heap.size w wr := hbw2.trans (hbr.mono (by omega))
    have q0 : wr.cell? ⟨w.heap.size, 0, none⟩ = some (.slice A nb c) := by rw [hbr.cell (p := ⟨w.heap.size, 0, none⟩) z1]; exact q0
    have q1 : wr.cell? ⟨w.heap.size, 1, none⟩ = some (.int .i64 m) := by rw [hbr.cell (p := ⟨w.heap.size, 1, none⟩) z1]; exact q1
    have zr : w.heap.size < wr.heap.size := by omega
    clear hown
    by_cases hlt : k < nb
    · have hkz : k < zs.length := by rw [HL.out]; exact hlt
      obtain ⟨c0, c9, t0, t9⟩ := okFs_at HK.out k hkz
      obtain ⟨a0, a9⟩ := okAll_at HU.out k
      obtain ⟨e0, e9⟩ := more_le HK.out k hkz (a := rdI us k) m0 m1 a0
      obtain ⟨ad, rfl, hcell⟩ := (Fd.below HR.out hB).2.2 (by omega)
      obtain ⟨hck, htk⟩ := hcell k hlt
      obtain ⟨bd, rfl, hcell2⟩ := (Rd.below HB.out hB).2.2 (by omega)
      have hak := hcell2 k hlt
      have hk4 : (0 : Int) ≤ (k : Int) := by omega
      have hk5 : (k : Int) < (nb : Int) := by omega
      have oc : wr.cell? ⟨g, k * 2, none⟩ = some (.int .i64 (gc zs k)) := by
        rw [HO.out.cellAt (k * 2) (by omega), (fcells_get _ k (by rw [toGrow_len _ _ _ _ _ (by omega)]; exact hkz)).1, (toGrow_at zs us m most k).1]
      have of := HO.out.frozenAt (k * 2)
      have hdef : newC zs k m (rdI us k) most = mx (gc zs k) (mn (gc zs k + moreV zs k m (rdI us k)) most) := rfl
      clear hcell hcell2
      by_cases hz : rdI us k = 0
      · have hm0 : moreV zs k m (rdI us k) = 0 := by unfold moreV; rw [if_pos hz]
        rw [hm0] at hdef
        rw [hz] at hak
        go_wp2
        go_roundw
        case rel =>
          refine ⟨k + 1, by omega, by go_num, ?_, (by repeat (first | exact Below.refl _ _ | assumption | refine Below.drew ?_ | refine below_dN ?_ _ | refine Below.setCell ?_ (by first | omega | (simp; done) | (simp; omega)) _ | refine below_al ?_ (by first | omega | (simp; done) | (simp; omega)) _ | refine below_tr (by assumption) ?_ (by first | omega | (simp; done) | (simp; omega))))⟩
          first
            | exact own_stored' ((HO.out.alloc _).alloc _) hkz hdef
            | exact ((own_stored' HO.out hkz (by rw [hdef, Int.add_zero])).alloc _).alloc _
        case measure => simp [intOf]; omega
      have hz0 : (rdI us k == 0) = false := by simpa using hz
      by_cases hct : gc zs k ≤ gt zs k
      · have hm0 : moreV zs k m (rdI us k) = shareV zs k (mn (rdI us k) m) := by unfold moreV; rw [if_neg hz, if_pos hct]
        rw [hm0] at hdef e0 e9
        have hd0 : decide (gc zs k ≤ gt zs k) = true := by simp; omega
        go_wp2_with fail
        refine (slow _ _ _ zs _ _ _ _ (Fd.below HR.out (by repeat (first | exact Below.refl _ _ | assumption | refine Below.drew ?_ | refine below_dN ?_ _ | refine Below.setCell ?_ (by first | omega | (simp; done) | (simp; omega)) _ | refine below_al ?_ (by first | omega | (simp; done) | (simp; omega)) _ | refine below_tr (by assumption) ?_ (by first | omega | (simp; done) | (simp; omega))))) HK.out hn8 hlt m0 m1 a0 a9).mono ?_
        rintro e w3 ⟨rfl, hb3⟩
        obtain ⟨c3, f3⟩ := bcell hb3
        have z3 := hb3.size
        simp at z3
        have z4 : g < w3.heap.size := by omega
        have z5 : wr.heap.size < w3.heap.size := by omega
        have HO3 := Lib.hid (own_below ((HO.out.alloc (_)).alloc (_)) hb3)
        have oc3 : w3.cell? ⟨g, k * 2, none⟩ = some (.int .i64 (gc zs k)) := by
          rw [HO3.out.cellAt (k * 2) (by omega), (fcells_get _ k (by rw [toGrow_len _ _ _ _ _ (by omega)]; exact hkz)).1, (toGrow_at zs us m most k).1]
        have of3 := HO3.out.frozenAt (k * 2)
        go_wp2
        go_roundw
        case rel =>
          refine ⟨k + 1, by omega, by go_num, ?_, (by repeat (first | exact Below.refl _ _ | assumption | refine Below.drew ?_ | refine below_dN ?_ _ | refine Below.setCell ?_ (by first | omega | (simp; done) | (simp; omega)) _ | refine below_al ?_ (by first | omega | (simp; done) | (simp; omega)) _ | refine below_tr (by assumption) ?_ (by first | omega | (simp; done) | (simp; omega))))⟩
          first
            | exact own_stored' HO3.out hkz hdef
            | exact own_stored' HO3.out hkz (by rw [hdef, Int.add_zero])
        case measure => simp [intOf]; omega
      by_cases hca : gc zs k ≤ rdI us k
      · have hm0 : moreV zs k m (rdI us k) = shareV zs k m := by unfold moreV; rw [if_neg hz, if_neg hct, if_pos hca]
        rw [hm0] at hdef e0 e9
        have hd0 : decide (gc zs k ≤ gt zs k) = false := by simp; omega
        go_wp2_with fail
        refine (avoid _ _ _ zs _ _ _ _ (Fd.below HR.out (by repeat (first | exact Below.refl _ _ | assumption | refine Below.drew ?_ | refine below_dN ?_ _ | refine Below.setCell ?_ (by first | omega | (simp; done) | (simp; omega)) _ | refine below_al ?_ (by first | omega | (simp; done) | (simp; omega)) _ | refine below_tr (by assumption) ?_ (by first | omega | (simp; done) | (simp; omega))))) HK.out hn8 hlt m0 m1 a0 a9).mono ?_
        rintro e w3 ⟨rfl, hb3⟩
        obtain ⟨c3, f3⟩ := bcell hb3
        have z3 := hb3.size
        simp at z3
        have z4 : g < w3.heap.size := by omega
        have z5 : wr.heap.size < w3.heap.size := by omega
        have HO3 := Lib.hid (own_below ((HO.out.alloc (_)).alloc (_)) hb3)
        have oc3 : w3.cell? ⟨g, k * 2, none⟩ = some (.int .i64 (gc zs k)) := by
          rw [HO3.out.cellAt (k * 2) (by omega), (fcells_get _ k (by rw [toGrow_len _ _ _ _ _ (by omega)]; exact hkz)).1, (toGrow_at zs us m most k).1]
        have of3 := HO3.out.frozenAt (k * 2)
        go_wp2
        go_roundw
        case rel =>
          refine ⟨k + 1, by omega, by go_num, ?_, (by repeat (first | exact Below.refl _ _ | assumption | refine Below.drew ?_ | refine below_dN ?_ _ | refine Below.setCell ?_ (by first | omega | (simp; done) | (simp; omega)) _ | refine below_al ?_ (by first | omega | (simp; done) | (simp; omega)) _ | refine below_tr (by assumption) ?_ (by first | omega | (simp; done) | (simp; omega))))⟩
          first
            | exact own_stored' HO3.out hkz hdef
            | exact own_stored' HO3.out hkz (by rw [hdef, Int.add_zero])
        case measure => simp [intOf]; omega
      · have hm0 : moreV zs k m (rdI us k) = 0 := by unfold moreV; rw [if_neg hz, if_neg hct, if_neg hca]
        rw [hm0] at hdef
        go_wp2
        go_roundw
        case rel =>
          refine ⟨k + 1, by omega, by go_num, ?_, (by repeat (first | exact Below.refl _ _ | assumption | refine Below.drew ?_ | refine below_dN ?_ _ | refine Below.setCell ?_ (by first | omega | (simp; done) | (simp; omega)) _ | refine below_al ?_ (by first | omega | (simp; done) | (simp; omega)) _ | refine below_tr (by assumption) ?_ (by first | omega | (simp; done) | (simp; omega))))⟩
          first
            | exact own_stored' ((HO.out.alloc _).alloc _) hkz hdef
            | exact ((own_stored' HO.out hkz (by rw [hdef, Int.add_zero])).alloc _).alloc _
        case measure => simp [intOf]; omega
    · have hkn : k = nb := by omega
      subst hkn
      have hfin : toGrow zs us m most k = grownL zs us m most k := by have := toGrow_n zs us m most; rwa [HL.out] at this
      have hown := HO.out
      rw [hfin] at hown
      obtain ⟨A', c', he, hfd⟩ := Fd_own hown
      have HFD := Lib.hid hfd
      have HE := Lib.hid he
      clear hfin hown hfd he
      go_wp2
      go_ret2
      refine ⟨A', c', ?_, ?_, (by repeat (first | exact Below.refl _ _ | assumption | refine Below.drew ?_ | refine below_dN ?_ _ | refine Below.setCell ?_ (by first | omega | (simp; done) | (simp; omega)) _ | refine below_al ?_ (by first | omega | (simp; done) | (simp; omega)) _ | refine below_tr (by assumption) ?_ (by first | omega | (simp; done) | (simp; omega))))⟩
      · rw [grownL_len, HL.out, ← HE.out]; rfl
      · rw [grownL_len, HL.out]; exact HFD.out
