/- Grown, as the reference has it. -/
import Derived.Test.YtmbklkgaapncfaaI
namespace Go.Proofs.Ytmbklkgaapncfaa.C
open Go.RowKit OpenStruct
set_option linter.unusedVariables false
set_option linter.unusedSimpArgs false
attribute [local go_sem high] max2_mx min2_mn max_two min_two
attribute [local go_sem ↓] Go.wp_at_zero Go.wp_at_succ

theorem moreV_eq {zs : List E32} {k : Nat} {m a : Int} (hc : 1 ≤ gc zs k) (hm : 1 ≤ m) : moreV zs k m a = if gc zs k ≤ gt zs k then shareV zs k (mn a m) else if gc zs k ≤ a then shareV zs k m else 0 := by
  unfold moreV
  by_cases h : a = 0
  · subst h
    rw [if_pos rfl]
    have : mn 0 m = 0 := by rw [mn_def]; split <;> omega
    rw [this]
    split
    · simp [shareV]
    · rw [if_neg (by omega)]
  · rw [if_neg h]
theorem own_setOther {w : World} {base : Nat} {e : TypeId} {size : Nat} {v : Value} {n : Nat} {xs : List Value} (h : w.ownsRow base e size v n xs) {a : Addr} (ha : ∀ g, v.ownBlock = some g → g ≠ a.block) (u : Value) : (w.setCell a u).ownsRow base e size v n xs := by
  refine ⟨h.1, ?_⟩
  rcases h.2 with h1 | ⟨g, cap, cur, rfl, hb1, hh, hr⟩
  · exact .inl h1
  · exact .inr ⟨g, cap, cur, rfl, hb1, by rw [heap_setCell_other w a g u (ha g rfl)]; exact hh, hr⟩
theorem name_exit {Q : Exit → Act → World → Prop} {e : Exit} {a : Act} {w : World} (h : ∀ W, W = w → Q e a W) : Q e a w := h w rfl
theorem own_drewN {w : World} {base : Nat} {e : TypeId} {size : Nat} {v : Value} {n : Nat} {xs : List Value} (h : w.ownsRow base e size v n xs) (d : Nat) : (w.drewN d).ownsRow base e size v n xs := h
theorem news2 {w : World} {ad : Addr} {u0 u1 : Value} (h0 : w.cell? ad = some u0) (h1 : w.cell? (ad.add 1) = some u1) : ∀ j u, [u0, u1][j]? = some u → w.cell? (ad.add j) = some u := by
  intro j u hu
  match j, hu with
  | 0, hu => obtain rfl := Option.some.inj hu; exact h0
  | 1, hu => obtain rfl := Option.some.inj hu; exact h1

set_option maxHeartbeats 16000000 in
set_option maxRecDepth 100000 in
theorem rgrown_go (A : Option Addr) (n c : Nat) (zs : List E32) (B : Option Addr) (nb cb : Nat) (us : List Int) (m most : Int) (w : World) (hr : Fd w A n zs) (hb : Rd .i64 w B nb us) (h1 : rightF zs m = true) (h2 : us.length = zs.length) (h3 : inB most 1 1073741824 = true) :
    Calls Try.prog 21 #[.slice A n c, .slice B nb cb, .int .i64 m, .int .i64 most] w (RetG (grownR zs us m most) (grownE zs us m most) w) := by
  have hu32 := Try.underlying32
  have HR := Lib.hid hr
  have HB := Lib.hid hb
  have hE : (okAll us = true → grownE zs us m most = 0) ∧ (okAll us = false → grownE zs us m most = 1) := by
    unfold grownE
    rw [if_pos h1]
    exact ⟨fun h => if_pos ⟨h2, h3, h⟩, fun h => if_neg (by rw [h]; simp)⟩
  have HE := Lib.hid hE
  have hlz := hr.1
  have hlu := hb.1
  have hnb : nb = n := by omega
  have hrt := h1
  simp [rightF, inB] at hrt
  obtain ⟨⟨m0, m1⟩, ⟨l1, l2⟩, hok⟩ := hrt
  have h3' := h3
  obtain ⟨o0, o1⟩ := inB_t h3'
  have HK := Lib.hid hok
  have HL := Lib.hid hlz
  have HLU := Lib.hid hlu
  have hn1 : 1 ≤ n := by omega
  have hn8 : n ≤ 8 := by omega
  have hcv : checkV zs m = 0 := by unfold checkV; rw [h1]; rfl
  have HW := Lib.hid (fun j x (hj : j < n) (hx : inB x 0 1073741824 = true) => show wrongF zs (j : Int) m x = 0 from (wrong_at).2.2.2.2 h1 (by omega) (by rw [HL.out]; omega) hx)
  obtain ⟨i0, hi0, hz0, hz1, hz2⟩ := info_parts2 info32
  subst hnb
  clear hr hb h1 h2 hok hlu l1 l2 hlz hE h3'
  go_enter Try.func21, Try.ntmps21
  go_wp2_with fail
  refine (rcheck _ _ _ zs _ _ HR.out).mono ?_
  rw [hcv]
  rintro e w1 ⟨rfl, rfl⟩
  go_wp2_with (first | (go_at_call 27; refine (window _ _).mono ?_; rw [h3]; rintro e w' ⟨rfl, rfl⟩))
  go_loopw [10, 11] (fun v i wr => ∃ k : Nat, k ≤ nb ∧ i = .int .i64 k ∧ Hid (okAll (us.take k) = true) ∧ wr.ownsRow w.heap.size 32 2 v k (fcells (grownL zs us m most k)) ∧ Below w.heap.size w wr) (fun _ i _ => nb - (intOf i).toNat)
  case atStart => exact ⟨0, by omega, rfl, rfl, World.ownsRow_nil _ _ _ _, Below.refl _ _⟩
  case round =>
    obtain ⟨k, hk, rfl, ho, hown, hB⟩ := hrel
    have HO := Lib.hid hown
    have hsz := hB.size
    have hlt0 := hown.lt
    clear hown
    by_cases hlt : k < nb
    · have hkz : k < zs.length := by rw [HL.out]; exact hlt
      obtain ⟨c0, c9, t0, t9⟩ := okFs_at HK.out k hkz
      obtain ⟨ad, rfl, hcell⟩ := (Fd.below HR.out hB).2.2 (by omega)
      obtain ⟨hck, htk⟩ := hcell k hlt
      obtain ⟨bd, rfl, hcell2⟩ := (Rd.below HB.out hB).2.2 (by omega)
      have hak := hcell2 k hlt
      have hk4 : (0 : Int) ≤ (k : Int) := by omega
      have hk5 : (k : Int) < (nb : Int) := by omega
      have hdef : newC zs k m (rdI us k) most = mx (gc zs k) (mn (gc zs k + moreV zs k m (rdI us k)) most) := rfl
      have hst := Lib.hid (okAll_snoc us k (by rw [HLU.out]; exact hlt))
      have hnt := Lib.hid (okAll_not us k (by rw [HLU.out]; exact hlt))
      have hck2 := World.block_lt_of_cell? wr _ hck
      have hak2 := World.block_lt_of_cell? wr _ hak
      clear hcell hcell2
      by_cases hin : inB (rdI us k) 0 1073741824 = true
      · obtain ⟨a0, a9⟩ := inB_t hin
        obtain ⟨e0, e9⟩ := more_le HK.out k hkz (a := rdI us k) m0 m1 a0
        rw [moreV_eq c0 m0] at hdef e0 e9
        have hwz := HW.out k (rdI us k) hlt hin
        have hwz0 := HW.out k 0 hlt (by decide)
        have hHIN := Lib.hid hin
        by_cases hct : gc zs k ≤ gt zs k
        · rw [if_pos hct] at hdef e0 e9
          by_cases hcap : most < gc zs k + shareV zs k (mn (rdI us k) m)
          · by_cases hlow : most < gc zs k
            · have hnew : newC zs k m (rdI us k) most = gc zs k := by rw [hdef, mx_def, mn_def]; (repeat' split) <;> omega
              go_wp2_with (first | (go_at_call 36; refine (rbytes _ _).mono ?_; rw [hHIN.out]; rintro e w' ⟨rfl, rfl⟩))
              refine (rslow _ _ _ zs _ _ _ _ (Fd.below HR.out (by repeat (first | exact Below.refl _ _ | assumption | refine Below.drew ?_ | refine below_dN ?_ _ | refine Below.setCell ?_ (by first | omega | (simp; done) | (simp; omega)) _ | refine below_al ?_ (by first | omega | (simp; done) | (simp; omega)) _ | refine below_tr (by assumption) ?_ (by first | omega | (simp; done) | (simp; omega)))))).mono ?_
              unfold Ans
              rw [hwz, Int.toNat_natCast]
              simp only [if0, if_true]
              rintro e w3 ⟨rfl, hb3⟩
              have ck3 : w3.cell? (ad.add (k * 2)) = some (.int .i64 (gc zs k)) := by rw [hb3.cell hck2]; exact hck
              have tk3 : w3.cell? ⟨(ad.add (k * 2)).block, (ad.add (k * 2)).off + 1, none⟩ = some (.int .i64 (gt zs k)) := by rw [hb3.cell (p := ⟨(ad.add (k * 2)).block, (ad.add (k * 2)).off + 1, none⟩) hck2]; exact htk
              have ak3 : w3.cell? (bd.add k) = some (.int .i64 (rdI us k)) := by rw [hb3.cell hak2]; exact hak
              have z3 := hb3.size
              have lt1 : (ad.add (k * 2)).block < w3.heap.size := by omega
              have HO3 := Lib.hid (own_below HO.out hb3)
              have hlt3 : ∀ g, u10.ownBlock = some g → g < w3.heap.size := fun g hg => by have := (hlt0 g hg).2; omega
              have hB3 : Below w.heap.size w w3 := (by repeat (first | exact Below.refl _ _ | assumption | refine Below.drew ?_ | refine below_dN ?_ _ | refine Below.setCell ?_ (by first | omega | (simp; done) | (simp; omega)) _ | refine below_al ?_ (by first | omega | (simp; done) | (simp; omega)) _ | refine below_tr (by assumption) ?_ (by first | omega | (simp; done) | (simp; omega))))
              have hs3 := hB3.size
              clear hck htk hak hb3
              go_wp2_with fail
              go_quiet (fail)
              refine name_exit ?_
              intro w5 hw5
              have ck5 : w5.cell? (ad.add (k * 2)) = some (.int .i64 (gc zs k)) := by subst hw5; exact ck3
              have tk5 : w5.cell? ⟨(ad.add (k * 2)).block, (ad.add (k * 2)).off + 1, none⟩ = some (.int .i64 (gt zs k)) := by subst hw5; exact tk3
              have HO5 : Hid (w5.ownsRow w.heap.size 32 2 u10 k (fcells (grownL zs us m most k))) := by subst hw5; exact HO3.out
              have hz5 : w3.heap.size ≤ w5.heap.size := by subst hw5; exact Nat.le_refl _
              have lt5 : (ad.add (k * 2)).block < w5.heap.size := by omega
              have hlt5 : ∀ g, u10.ownBlock = some g → g < w5.heap.size := fun g hg => by have := hlt3 g hg; omega
              have hB5 : Below w.heap.size w w5 := by subst hw5; exact (by repeat (first | exact Below.refl _ _ | assumption | refine Below.drew ?_ | refine below_dN ?_ _ | refine Below.setCell ?_ (by first | omega | (simp; done) | (simp; omega)) _ | refine below_al ?_ (by first | omega | (simp; done) | (simp; omega)) _ | refine below_tr (by assumption) ?_ (by first | omega | (simp; done) | (simp; omega))))
              have hs5 := hB5.size
              clear hw5 ck3 tk3
              go_wp2_with fail
              go_quiet (fail)
              refine name_exit ?_
              intro w6 hw6
              have b0 : w6.cell? ⟨w5.heap.size, 0, none⟩ = some (.int .i64 (most)) := by subst hw6; simp [go_sem]
              have b1 : w6.cell? ⟨w5.heap.size, 1, none⟩ = some (.int .i64 (gt zs k)) := by subst hw6; simp [go_sem]
              have bf : w6.frozen? ⟨w5.heap.size, 0, none⟩ = false := by subst hw6; simp [go_sem]
              have hz6 : w6.heap.size = w5.heap.size + 1 := by subst hw6; simp
              have ck6 : w6.cell? (ad.add (k * 2)) = some (.int .i64 (gc zs k)) := by subst hw6; simp [go_sem, ck5, lt5]
              have HO6 : Hid (w6.ownsRow w.heap.size 32 2 u10 k (fcells (grownL zs us m most k))) := by subst hw6; exact (by repeat (first | exact HO5.out | refine World.ownsRow.alloc ?_ _ | refine own_drewN ?_ _ | refine own_setOther ?_ (fun g hg => by have := hlt5 g hg; first | omega | (simp; omega)) _))
              have hB6 : Below w.heap.size w w6 := by subst hw6; exact (by repeat (first | exact Below.refl _ _ | assumption | refine Below.drew ?_ | refine below_dN ?_ _ | refine Below.setCell ?_ (by first | omega | (simp; done) | (simp; omega)) _ | refine below_al ?_ (by first | omega | (simp; done) | (simp; omega)) _ | refine below_tr (by assumption) ?_ (by first | omega | (simp; done) | (simp; omega))))
              have lt6 : w5.heap.size < w6.heap.size := by omega
              clear hw6 hz6
              go_wp2_with (at_builtin; go_must (refine wpList_append_lies _ rfl _ _ _ rfl w.heap.size 32 i0 _ 2 16 Try.underlying22 hi0 hz0 hz1 hz2 rfl (by omega) u10 k (fcells (grownL zs us m most k)) rfl (by repeat (first | exact HO6.out | refine World.ownsRow.alloc ?_ _ | refine own_drewN ?_ _ | refine own_setOther ?_ (fun g hg => by have := hlt5 g hg; first | omega | (simp; omega)) _)) _ 1 1 [.int .i64 (gc zs k), .int .i64 (gt zs k)] rfl rfl (news2 (by simp [go_sem]) (by simp [go_sem])) (by simp [Value.oneCell']) (by omega) (by simp only [maxLen]; omega) (by omega) (by first | omega | (simp; done) | (simp; omega)) _ rfl ?_; intro g cap w4 hown4 hgrow hat hlt4))
              have hb4 : Below w.heap.size w w4 := below_app (e := 32) (size := 2) (n := k) (xs := fcells (grownL zs us m most k)) (by repeat (first | exact Below.refl _ _ | assumption | refine Below.drew ?_ | refine below_dN ?_ _ | refine Below.setCell ?_ (by first | omega | (simp; done) | (simp; omega)) _ | refine below_al ?_ (by first | omega | (simp; done) | (simp; omega)) _ | refine below_tr (by assumption) ?_ (by first | omega | (simp; done) | (simp; omega)))) (by first | omega | (simp; done) | (simp; omega)) (by repeat (first | exact HO6.out | refine World.ownsRow.alloc ?_ _ | refine own_drewN ?_ _ | refine own_setOther ?_ (fun g hg => by have := hlt5 g hg; first | omega | (simp; omega)) _)) hgrow
              have HO4 : Hid (w4.ownsRow w.heap.size 32 2 (.slice (some ⟨g, 0, none⟩) (k + 1) cap) (k + 1) (fcells (grownL zs us m most (k + 1)))) := by
                show w4.ownsRow _ _ _ _ _ _
                rw [grownL_s, fcells_snoc, hnew]
                exact hown4
              clear hown4 hgrow hat
              go_wp2
              go_roundw
              case rel => exact ⟨k + 1, by omega, by go_num, by show okAll _ = true; rw [hst.out, ho.out, hHIN.out]; rfl, HO4.out, hb4⟩
              case measure => simp [intOf]; omega
            · have hnew : newC zs k m (rdI us k) most = most := by rw [hdef, mx_def, mn_def]; (repeat' split) <;> omega
              go_wp2_with (first | (go_at_call 36; refine (rbytes _ _).mono ?_; rw [hHIN.out]; rintro e w' ⟨rfl, rfl⟩))
              refine (rslow _ _ _ zs _ _ _ _ (Fd.below HR.out (by repeat (first | exact Below.refl _ _ | assumption | refine Below.drew ?_ | refine below_dN ?_ _ | refine Below.setCell ?_ (by first | omega | (simp; done) | (simp; omega)) _ | refine below_al ?_ (by first | omega | (simp; done) | (simp; omega)) _ | refine below_tr (by assumption) ?_ (by first | omega | (simp; done) | (simp; omega)))))).mono ?_
              unfold Ans
              rw [hwz, Int.toNat_natCast]
              simp only [if0, if_true]
              rintro e w3 ⟨rfl, hb3⟩
              have ck3 : w3.cell? (ad.add (k * 2)) = some (.int .i64 (gc zs k)) := by rw [hb3.cell hck2]; exact hck
              have tk3 : w3.cell? ⟨(ad.add (k * 2)).block, (ad.add (k * 2)).off + 1, none⟩ = some (.int .i64 (gt zs k)) := by rw [hb3.cell (p := ⟨(ad.add (k * 2)).block, (ad.add (k * 2)).off + 1, none⟩) hck2]; exact htk
              have ak3 : w3.cell? (bd.add k) = some (.int .i64 (rdI us k)) := by rw [hb3.cell hak2]; exact hak
              have z3 := hb3.size
              have lt1 : (ad.add (k * 2)).block < w3.heap.size := by omega
              have HO3 := Lib.hid (own_below HO.out hb3)
              have hlt3 : ∀ g, u10.ownBlock = some g → g < w3.heap.size := fun g hg => by have := (hlt0 g hg).2; omega
              have hB3 : Below w.heap.size w w3 := (by repeat (first | exact Below.refl _ _ | assumption | refine Below.drew ?_ | refine below_dN ?_ _ | refine Below.setCell ?_ (by first | omega | (simp; done) | (simp; omega)) _ | refine below_al ?_ (by first | omega | (simp; done) | (simp; omega)) _ | refine below_tr (by assumption) ?_ (by first | omega | (simp; done) | (simp; omega))))
              have hs3 := hB3.size
              clear hck htk hak hb3
              go_wp2_with fail
              go_quiet (fail)
              refine name_exit ?_
              intro w5 hw5
              have ck5 : w5.cell? (ad.add (k * 2)) = some (.int .i64 (gc zs k)) := by subst hw5; exact ck3
              have tk5 : w5.cell? ⟨(ad.add (k * 2)).block, (ad.add (k * 2)).off + 1, none⟩ = some (.int .i64 (gt zs k)) := by subst hw5; exact tk3
              have HO5 : Hid (w5.ownsRow w.heap.size 32 2 u10 k (fcells (grownL zs us m most k))) := by subst hw5; exact HO3.out
              have hz5 : w3.heap.size ≤ w5.heap.size := by subst hw5; exact Nat.le_refl _
              have lt5 : (ad.add (k * 2)).block < w5.heap.size := by omega
              have hlt5 : ∀ g, u10.ownBlock = some g → g < w5.heap.size := fun g hg => by have := hlt3 g hg; omega
              have hB5 : Below w.heap.size w w5 := by subst hw5; exact (by repeat (first | exact Below.refl _ _ | assumption | refine Below.drew ?_ | refine below_dN ?_ _ | refine Below.setCell ?_ (by first | omega | (simp; done) | (simp; omega)) _ | refine below_al ?_ (by first | omega | (simp; done) | (simp; omega)) _ | refine below_tr (by assumption) ?_ (by first | omega | (simp; done) | (simp; omega))))
              have hs5 := hB5.size
              clear hw5 ck3 tk3
              go_wp2_with fail
              go_quiet (fail)
              refine name_exit ?_
              intro w6 hw6
              have b0 : w6.cell? ⟨w5.heap.size, 0, none⟩ = some (.int .i64 (most)) := by subst hw6; simp [go_sem]
              have b1 : w6.cell? ⟨w5.heap.size, 1, none⟩ = some (.int .i64 (gt zs k)) := by subst hw6; simp [go_sem]
              have bf : w6.frozen? ⟨w5.heap.size, 0, none⟩ = false := by subst hw6; simp [go_sem]
              have hz6 : w6.heap.size = w5.heap.size + 1 := by subst hw6; simp
              have ck6 : w6.cell? (ad.add (k * 2)) = some (.int .i64 (gc zs k)) := by subst hw6; simp [go_sem, ck5, lt5]
              have HO6 : Hid (w6.ownsRow w.heap.size 32 2 u10 k (fcells (grownL zs us m most k))) := by subst hw6; exact (by repeat (first | exact HO5.out | refine World.ownsRow.alloc ?_ _ | refine own_drewN ?_ _ | refine own_setOther ?_ (fun g hg => by have := hlt5 g hg; first | omega | (simp; omega)) _))
              have hB6 : Below w.heap.size w w6 := by subst hw6; exact (by repeat (first | exact Below.refl _ _ | assumption | refine Below.drew ?_ | refine below_dN ?_ _ | refine Below.setCell ?_ (by first | omega | (simp; done) | (simp; omega)) _ | refine below_al ?_ (by first | omega | (simp; done) | (simp; omega)) _ | refine below_tr (by assumption) ?_ (by first | omega | (simp; done) | (simp; omega))))
              have lt6 : w5.heap.size < w6.heap.size := by omega
              clear hw6 hz6
              go_wp2_with (at_builtin; go_must (refine wpList_append_lies _ rfl _ _ _ rfl w.heap.size 32 i0 _ 2 16 Try.underlying22 hi0 hz0 hz1 hz2 rfl (by omega) u10 k (fcells (grownL zs us m most k)) rfl (by repeat (first | exact HO6.out | refine World.ownsRow.alloc ?_ _ | refine own_drewN ?_ _ | refine own_setOther ?_ (fun g hg => by have := hlt5 g hg; first | omega | (simp; omega)) _)) _ 1 1 [.int .i64 (most), .int .i64 (gt zs k)] rfl rfl (news2 (by simp [go_sem]) (by simp [go_sem])) (by simp [Value.oneCell']) (by omega) (by simp only [maxLen]; omega) (by omega) (by first | omega | (simp; done) | (simp; omega)) _ rfl ?_; intro g cap w4 hown4 hgrow hat hlt4))
              have hb4 : Below w.heap.size w w4 := below_app (e := 32) (size := 2) (n := k) (xs := fcells (grownL zs us m most k)) (by repeat (first | exact Below.refl _ _ | assumption | refine Below.drew ?_ | refine below_dN ?_ _ | refine Below.setCell ?_ (by first | omega | (simp; done) | (simp; omega)) _ | refine below_al ?_ (by first | omega | (simp; done) | (simp; omega)) _ | refine below_tr (by assumption) ?_ (by first | omega | (simp; done) | (simp; omega)))) (by first | omega | (simp; done) | (simp; omega)) (by repeat (first | exact HO6.out | refine World.ownsRow.alloc ?_ _ | refine own_drewN ?_ _ | refine own_setOther ?_ (fun g hg => by have := hlt5 g hg; first | omega | (simp; omega)) _)) hgrow
              have HO4 : Hid (w4.ownsRow w.heap.size 32 2 (.slice (some ⟨g, 0, none⟩) (k + 1) cap) (k + 1) (fcells (grownL zs us m most (k + 1)))) := by
                show w4.ownsRow _ _ _ _ _ _
                rw [grownL_s, fcells_snoc, hnew]
                exact hown4
              clear hown4 hgrow hat
              go_wp2
              go_roundw
              case rel => exact ⟨k + 1, by omega, by go_num, by show okAll _ = true; rw [hst.out, ho.out, hHIN.out]; rfl, HO4.out, hb4⟩
              case measure => simp [intOf]; omega
          · have hnew : newC zs k m (rdI us k) most = gc zs k + shareV zs k (mn (rdI us k) m) := by rw [hdef, mx_def, mn_def]; (repeat' split) <;> omega
            go_wp2_with (first | (go_at_call 36; refine (rbytes _ _).mono ?_; rw [hHIN.out]; rintro e w' ⟨rfl, rfl⟩))
            refine (rslow _ _ _ zs _ _ _ _ (Fd.below HR.out (by repeat (first | exact Below.refl _ _ | assumption | refine Below.drew ?_ | refine below_dN ?_ _ | refine Below.setCell ?_ (by first | omega | (simp; done) | (simp; omega)) _ | refine below_al ?_ (by first | omega | (simp; done) | (simp; omega)) _ | refine below_tr (by assumption) ?_ (by first | omega | (simp; done) | (simp; omega)))))).mono ?_
            unfold Ans
            rw [hwz, Int.toNat_natCast]
            simp only [if0, if_true]
            rintro e w3 ⟨rfl, hb3⟩
            have ck3 : w3.cell? (ad.add (k * 2)) = some (.int .i64 (gc zs k)) := by rw [hb3.cell hck2]; exact hck
            have tk3 : w3.cell? ⟨(ad.add (k * 2)).block, (ad.add (k * 2)).off + 1, none⟩ = some (.int .i64 (gt zs k)) := by rw [hb3.cell (p := ⟨(ad.add (k * 2)).block, (ad.add (k * 2)).off + 1, none⟩) hck2]; exact htk
            have ak3 : w3.cell? (bd.add k) = some (.int .i64 (rdI us k)) := by rw [hb3.cell hak2]; exact hak
            have z3 := hb3.size
            have lt1 : (ad.add (k * 2)).block < w3.heap.size := by omega
            have HO3 := Lib.hid (own_below HO.out hb3)
            have hlt3 : ∀ g, u10.ownBlock = some g → g < w3.heap.size := fun g hg => by have := (hlt0 g hg).2; omega
            have hB3 : Below w.heap.size w w3 := (by repeat (first | exact Below.refl _ _ | assumption | refine Below.drew ?_ | refine below_dN ?_ _ | refine Below.setCell ?_ (by first | omega | (simp; done) | (simp; omega)) _ | refine below_al ?_ (by first | omega | (simp; done) | (simp; omega)) _ | refine below_tr (by assumption) ?_ (by first | omega | (simp; done) | (simp; omega))))
            have hs3 := hB3.size
            clear hck htk hak hb3
            go_wp2_with fail
            go_quiet (fail)
            refine name_exit ?_
            intro w5 hw5
            have ck5 : w5.cell? (ad.add (k * 2)) = some (.int .i64 (gc zs k)) := by subst hw5; exact ck3
            have tk5 : w5.cell? ⟨(ad.add (k * 2)).block, (ad.add (k * 2)).off + 1, none⟩ = some (.int .i64 (gt zs k)) := by subst hw5; exact tk3
            have HO5 : Hid (w5.ownsRow w.heap.size 32 2 u10 k (fcells (grownL zs us m most k))) := by subst hw5; exact HO3.out
            have hz5 : w3.heap.size ≤ w5.heap.size := by subst hw5; exact Nat.le_refl _
            have lt5 : (ad.add (k * 2)).block < w5.heap.size := by omega
            have hlt5 : ∀ g, u10.ownBlock = some g → g < w5.heap.size := fun g hg => by have := hlt3 g hg; omega
            have hB5 : Below w.heap.size w w5 := by subst hw5; exact (by repeat (first | exact Below.refl _ _ | assumption | refine Below.drew ?_ | refine below_dN ?_ _ | refine Below.setCell ?_ (by first | omega | (simp; done) | (simp; omega)) _ | refine below_al ?_ (by first | omega | (simp; done) | (simp; omega)) _ | refine below_tr (by assumption) ?_ (by first | omega | (simp; done) | (simp; omega))))
            have hs5 := hB5.size
            clear hw5 ck3 tk3
            go_wp2_with fail
            go_quiet (fail)
            refine name_exit ?_
            intro w6 hw6
            have b0 : w6.cell? ⟨w5.heap.size, 0, none⟩ = some (.int .i64 (gc zs k + shareV zs k (mn (rdI us k) m))) := by subst hw6; simp [go_sem]
            have b1 : w6.cell? ⟨w5.heap.size, 1, none⟩ = some (.int .i64 (gt zs k)) := by subst hw6; simp [go_sem]
            have bf : w6.frozen? ⟨w5.heap.size, 0, none⟩ = false := by subst hw6; simp [go_sem]
            have hz6 : w6.heap.size = w5.heap.size + 1 := by subst hw6; simp
            have ck6 : w6.cell? (ad.add (k * 2)) = some (.int .i64 (gc zs k)) := by subst hw6; simp [go_sem, ck5, lt5]
            have HO6 : Hid (w6.ownsRow w.heap.size 32 2 u10 k (fcells (grownL zs us m most k))) := by subst hw6; exact (by repeat (first | exact HO5.out | refine World.ownsRow.alloc ?_ _ | refine own_drewN ?_ _ | refine own_setOther ?_ (fun g hg => by have := hlt5 g hg; first | omega | (simp; omega)) _))
            have hB6 : Below w.heap.size w w6 := by subst hw6; exact (by repeat (first | exact Below.refl _ _ | assumption | refine Below.drew ?_ | refine below_dN ?_ _ | refine Below.setCell ?_ (by first | omega | (simp; done) | (simp; omega)) _ | refine below_al ?_ (by first | omega | (simp; done) | (simp; omega)) _ | refine below_tr (by assumption) ?_ (by first | omega | (simp; done) | (simp; omega))))
            have lt6 : w5.heap.size < w6.heap.size := by omega
            clear hw6 hz6
            go_wp2_with (at_builtin; go_must (refine wpList_append_lies _ rfl _ _ _ rfl w.heap.size 32 i0 _ 2 16 Try.underlying22 hi0 hz0 hz1 hz2 rfl (by omega) u10 k (fcells (grownL zs us m most k)) rfl (by repeat (first | exact HO6.out | refine World.ownsRow.alloc ?_ _ | refine own_drewN ?_ _ | refine own_setOther ?_ (fun g hg => by have := hlt5 g hg; first | omega | (simp; omega)) _)) _ 1 1 [.int .i64 (gc zs k + shareV zs k (mn (rdI us k) m)), .int .i64 (gt zs k)] rfl rfl (news2 (by simp [go_sem]) (by simp [go_sem])) (by simp [Value.oneCell']) (by omega) (by simp only [maxLen]; omega) (by omega) (by first | omega | (simp; done) | (simp; omega)) _ rfl ?_; intro g cap w4 hown4 hgrow hat hlt4))
            have hb4 : Below w.heap.size w w4 := below_app (e := 32) (size := 2) (n := k) (xs := fcells (grownL zs us m most k)) (by repeat (first | exact Below.refl _ _ | assumption | refine Below.drew ?_ | refine below_dN ?_ _ | refine Below.setCell ?_ (by first | omega | (simp; done) | (simp; omega)) _ | refine below_al ?_ (by first | omega | (simp; done) | (simp; omega)) _ | refine below_tr (by assumption) ?_ (by first | omega | (simp; done) | (simp; omega)))) (by first | omega | (simp; done) | (simp; omega)) (by repeat (first | exact HO6.out | refine World.ownsRow.alloc ?_ _ | refine own_drewN ?_ _ | refine own_setOther ?_ (fun g hg => by have := hlt5 g hg; first | omega | (simp; omega)) _)) hgrow
            have HO4 : Hid (w4.ownsRow w.heap.size 32 2 (.slice (some ⟨g, 0, none⟩) (k + 1) cap) (k + 1) (fcells (grownL zs us m most (k + 1)))) := by
              show w4.ownsRow _ _ _ _ _ _
              rw [grownL_s, fcells_snoc, hnew]
              exact hown4
            clear hown4 hgrow hat
            go_wp2
            go_roundw
            case rel => exact ⟨k + 1, by omega, by go_num, by show okAll _ = true; rw [hst.out, ho.out, hHIN.out]; rfl, HO4.out, hb4⟩
            case measure => simp [intOf]; omega
        by_cases hca : gc zs k ≤ rdI us k
        · rw [if_neg hct, if_pos hca] at hdef e0 e9
          by_cases hcap : most < gc zs k + shareV zs k m
          · by_cases hlow : most < gc zs k
            · have hnew : newC zs k m (rdI us k) most = gc zs k := by rw [hdef, mx_def, mn_def]; (repeat' split) <;> omega
              go_wp2_with (first | (go_at_call 36; refine (rbytes _ _).mono ?_; rw [hHIN.out]; rintro e w' ⟨rfl, rfl⟩))
              refine (rslow _ _ _ zs _ _ _ _ (Fd.below HR.out (by repeat (first | exact Below.refl _ _ | assumption | refine Below.drew ?_ | refine below_dN ?_ _ | refine Below.setCell ?_ (by first | omega | (simp; done) | (simp; omega)) _ | refine below_al ?_ (by first | omega | (simp; done) | (simp; omega)) _ | refine below_tr (by assumption) ?_ (by first | omega | (simp; done) | (simp; omega)))))).mono ?_
              unfold Ans
              rw [hwz, Int.toNat_natCast]
              simp only [if0, if_true]
              rintro e w3 ⟨rfl, hb3⟩
              have ck3 : w3.cell? (ad.add (k * 2)) = some (.int .i64 (gc zs k)) := by rw [hb3.cell hck2]; exact hck
              have tk3 : w3.cell? ⟨(ad.add (k * 2)).block, (ad.add (k * 2)).off + 1, none⟩ = some (.int .i64 (gt zs k)) := by rw [hb3.cell (p := ⟨(ad.add (k * 2)).block, (ad.add (k * 2)).off + 1, none⟩) hck2]; exact htk
              have ak3 : w3.cell? (bd.add k) = some (.int .i64 (rdI us k)) := by rw [hb3.cell hak2]; exact hak
              have z3 := hb3.size
              have lt1 : (ad.add (k * 2)).block < w3.heap.size := by omega
              have HO3 := Lib.hid (own_below HO.out hb3)
              have hlt3 : ∀ g, u10.ownBlock = some g → g < w3.heap.size := fun g hg => by have := (hlt0 g hg).2; omega
              have hB3 : Below w.heap.size w w3 := (by repeat (first | exact Below.refl _ _ | assumption | refine Below.drew ?_ | refine below_dN ?_ _ | refine Below.setCell ?_ (by first | omega | (simp; done) | (simp; omega)) _ | refine below_al ?_ (by first | omega | (simp; done) | (simp; omega)) _ | refine below_tr (by assumption) ?_ (by first | omega | (simp; done) | (simp; omega))))
              have hs3 := hB3.size
              clear hck htk hak hb3
              go_wp2_with fail
              go_quiet (fail)
              go_wp2_with fail
              go_quiet (fail)
              go_wp2_with fail
              refine (ravoid _ _ _ zs _ _ _ (Fd.below HR.out (by repeat (first | exact Below.refl _ _ | assumption | refine Below.drew ?_ | refine below_dN ?_ _ | refine Below.setCell ?_ (by first | omega | (simp; done) | (simp; omega)) _ | refine below_al ?_ (by first | omega | (simp; done) | (simp; omega)) _ | refine below_tr (by assumption) ?_ (by first | omega | (simp; done) | (simp; omega)))))).mono ?_
              unfold Ans
              rw [hwz0, Int.toNat_natCast]
              simp only [if0, if_true]
              rintro e w5 ⟨rfl, hb5⟩
              have ck5 : w5.cell? (ad.add (k * 2)) = some (.int .i64 (gc zs k)) := by rw [hb5.cell lt1]; exact ck3
              have tk5 : w5.cell? ⟨(ad.add (k * 2)).block, (ad.add (k * 2)).off + 1, none⟩ = some (.int .i64 (gt zs k)) := by rw [hb5.cell (p := ⟨(ad.add (k * 2)).block, (ad.add (k * 2)).off + 1, none⟩) lt1]; exact tk3
              have HO5 := Lib.hid (own_below (own_drewN HO3.out _) hb5)
              have hz5 : w3.heap.size ≤ w5.heap.size := hb5.size
              have lt5 : (ad.add (k * 2)).block < w5.heap.size := by omega
              have hlt5 : ∀ g, u10.ownBlock = some g → g < w5.heap.size := fun g hg => by have := hlt3 g hg; omega
              have hB5 : Below w.heap.size w w5 := (by repeat (first | exact Below.refl _ _ | assumption | refine Below.drew ?_ | refine below_dN ?_ _ | refine Below.setCell ?_ (by first | omega | (simp; done) | (simp; omega)) _ | refine below_al ?_ (by first | omega | (simp; done) | (simp; omega)) _ | refine below_tr (by assumption) ?_ (by first | omega | (simp; done) | (simp; omega))))
              have hs5 := hB5.size
              clear hb5 ck3 tk3
              go_wp2_with fail
              go_quiet (fail)
              refine name_exit ?_
              intro w6 hw6
              have b0 : w6.cell? ⟨w5.heap.size, 0, none⟩ = some (.int .i64 (most)) := by subst hw6; simp [go_sem]
              have b1 : w6.cell? ⟨w5.heap.size, 1, none⟩ = some (.int .i64 (gt zs k)) := by subst hw6; simp [go_sem]
              have bf : w6.frozen? ⟨w5.heap.size, 0, none⟩ = false := by subst hw6; simp [go_sem]
              have hz6 : w6.heap.size = w5.heap.size + 1 := by subst hw6; simp
              have ck6 : w6.cell? (ad.add (k * 2)) = some (.int .i64 (gc zs k)) := by subst hw6; simp [go_sem, ck5, lt5]
              have HO6 : Hid (w6.ownsRow w.heap.size 32 2 u10 k (fcells (grownL zs us m most k))) := by subst hw6; exact (by repeat (first | exact HO5.out | refine World.ownsRow.alloc ?_ _ | refine own_drewN ?_ _ | refine own_setOther ?_ (fun g hg => by have := hlt5 g hg; first | omega | (simp; omega)) _))
              have hB6 : Below w.heap.size w w6 := by subst hw6; exact (by repeat (first | exact Below.refl _ _ | assumption | refine Below.drew ?_ | refine below_dN ?_ _ | refine Below.setCell ?_ (by first | omega | (simp; done) | (simp; omega)) _ | refine below_al ?_ (by first | omega | (simp; done) | (simp; omega)) _ | refine below_tr (by assumption) ?_ (by first | omega | (simp; done) | (simp; omega))))
              have lt6 : w5.heap.size < w6.heap.size := by omega
              clear hw6 hz6
              go_wp2_with (at_builtin; go_must (refine wpList_append_lies _ rfl _ _ _ rfl w.heap.size 32 i0 _ 2 16 Try.underlying22 hi0 hz0 hz1 hz2 rfl (by omega) u10 k (fcells (grownL zs us m most k)) rfl (by repeat (first | exact HO6.out | refine World.ownsRow.alloc ?_ _ | refine own_drewN ?_ _ | refine own_setOther ?_ (fun g hg => by have := hlt5 g hg; first | omega | (simp; omega)) _)) _ 1 1 [.int .i64 (gc zs k), .int .i64 (gt zs k)] rfl rfl (news2 (by simp [go_sem]) (by simp [go_sem])) (by simp [Value.oneCell']) (by omega) (by simp only [maxLen]; omega) (by omega) (by first | omega | (simp; done) | (simp; omega)) _ rfl ?_; intro g cap w4 hown4 hgrow hat hlt4))
              have hb4 : Below w.heap.size w w4 := below_app (e := 32) (size := 2) (n := k) (xs := fcells (grownL zs us m most k)) (by repeat (first | exact Below.refl _ _ | assumption | refine Below.drew ?_ | refine below_dN ?_ _ | refine Below.setCell ?_ (by first | omega | (simp; done) | (simp; omega)) _ | refine below_al ?_ (by first | omega | (simp; done) | (simp; omega)) _ | refine below_tr (by assumption) ?_ (by first | omega | (simp; done) | (simp; omega)))) (by first | omega | (simp; done) | (simp; omega)) (by repeat (first | exact HO6.out | refine World.ownsRow.alloc ?_ _ | refine own_drewN ?_ _ | refine own_setOther ?_ (fun g hg => by have := hlt5 g hg; first | omega | (simp; omega)) _)) hgrow
              have HO4 : Hid (w4.ownsRow w.heap.size 32 2 (.slice (some ⟨g, 0, none⟩) (k + 1) cap) (k + 1) (fcells (grownL zs us m most (k + 1)))) := by
                show w4.ownsRow _ _ _ _ _ _
                rw [grownL_s, fcells_snoc, hnew]
                exact hown4
              clear hown4 hgrow hat
              go_wp2
              go_roundw
              case rel => exact ⟨k + 1, by omega, by go_num, by show okAll _ = true; rw [hst.out, ho.out, hHIN.out]; rfl, HO4.out, hb4⟩
              case measure => simp [intOf]; omega
            · have hnew : newC zs k m (rdI us k) most = most := by rw [hdef, mx_def, mn_def]; (repeat' split) <;> omega
              go_wp2_with (first | (go_at_call 36; refine (rbytes _ _).mono ?_; rw [hHIN.out]; rintro e w' ⟨rfl, rfl⟩))
              refine (rslow _ _ _ zs _ _ _ _ (Fd.below HR.out (by repeat (first | exact Below.refl _ _ | assumption | refine Below.drew ?_ | refine below_dN ?_ _ | refine Below.setCell ?_ (by first | omega | (simp; done) | (simp; omega)) _ | refine below_al ?_ (by first | omega | (simp; done) | (simp; omega)) _ | refine below_tr (by assumption) ?_ (by first | omega | (simp; done) | (simp; omega)))))).mono ?_
              unfold Ans
              rw [hwz, Int.toNat_natCast]
              simp only [if0, if_true]
              rintro e w3 ⟨rfl, hb3⟩
              have ck3 : w3.cell? (ad.add (k * 2)) = some (.int .i64 (gc zs k)) := by rw [hb3.cell hck2]; exact hck
              have tk3 : w3.cell? ⟨(ad.add (k * 2)).block, (ad.add (k * 2)).off + 1, none⟩ = some (.int .i64 (gt zs k)) := by rw [hb3.cell (p := ⟨(ad.add (k * 2)).block, (ad.add (k * 2)).off + 1, none⟩) hck2]; exact htk
              have ak3 : w3.cell? (bd.add k) = some (.int .i64 (rdI us k)) := by rw [hb3.cell hak2]; exact hak
              have z3 := hb3.size
              have lt1 : (ad.add (k * 2)).block < w3.heap.size := by omega
              have HO3 := Lib.hid (own_below HO.out hb3)
              have hlt3 : ∀ g, u10.ownBlock = some g → g < w3.heap.size := fun g hg => by have := (hlt0 g hg).2; omega
              have hB3 : Below w.heap.size w w3 := (by repeat (first | exact Below.refl _ _ | assumption | refine Below.drew ?_ | refine below_dN ?_ _ | refine Below.setCell ?_ (by first | omega | (simp; done) | (simp; omega)) _ | refine below_al ?_ (by first | omega | (simp; done) | (simp; omega)) _ | refine below_tr (by assumption) ?_ (by first | omega | (simp; done) | (simp; omega))))
              have hs3 := hB3.size
              clear hck htk hak hb3
              go_wp2_with fail
              go_quiet (fail)
              go_wp2_with fail
              go_quiet (fail)
              go_wp2_with fail
              refine (ravoid _ _ _ zs _ _ _ (Fd.below HR.out (by repeat (first | exact Below.refl _ _ | assumption | refine Below.drew ?_ | refine below_dN ?_ _ | refine Below.setCell ?_ (by first | omega | (simp; done) | (simp; omega)) _ | refine below_al ?_ (by first | omega | (simp; done) | (simp; omega)) _ | refine below_tr (by assumption) ?_ (by first | omega | (simp; done) | (simp; omega)))))).mono ?_
              unfold Ans
              rw [hwz0, Int.toNat_natCast]
              simp only [if0, if_true]
              rintro e w5 ⟨rfl, hb5⟩
              have ck5 : w5.cell? (ad.add (k * 2)) = some (.int .i64 (gc zs k)) := by rw [hb5.cell lt1]; exact ck3
              have tk5 : w5.cell? ⟨(ad.add (k * 2)).block, (ad.add (k * 2)).off + 1, none⟩ = some (.int .i64 (gt zs k)) := by rw [hb5.cell (p := ⟨(ad.add (k * 2)).block, (ad.add (k * 2)).off + 1, none⟩) lt1]; exact tk3
              have HO5 := Lib.hid (own_below (own_drewN HO3.out _) hb5)
              have hz5 : w3.heap.size ≤ w5.heap.size := hb5.size
              have lt5 : (ad.add (k * 2)).block < w5.heap.size := by omega
              have hlt5 : ∀ g, u10.ownBlock = some g → g < w5.heap.size := fun g hg => by have := hlt3 g hg; omega
              have hB5 : Below w.heap.size w w5 := (by repeat (first | exact Below.refl _ _ | assumption | refine Below.drew ?_ | refine below_dN ?_ _ | refine Below.setCell ?_ (by first | omega | (simp; done) | (simp; omega)) _ | refine below_al ?_ (by first | omega | (simp; done) | (simp; omega)) _ | refine below_tr (by assumption) ?_ (by first | omega | (simp; done) | (simp; omega))))
              have hs5 := hB5.size
              clear hb5 ck3 tk3
              go_wp2_with fail
              go_quiet (fail)
              refine name_exit ?_
              intro w6 hw6
              have b0 : w6.cell? ⟨w5.heap.size, 0, none⟩ = some (.int .i64 (most)) := by subst hw6; simp [go_sem]
              have b1 : w6.cell? ⟨w5.heap.size, 1, none⟩ = some (.int .i64 (gt zs k)) := by subst hw6; simp [go_sem]
              have bf : w6.frozen? ⟨w5.heap.size, 0, none⟩ = false := by subst hw6; simp [go_sem]
              have hz6 : w6.heap.size = w5.heap.size + 1 := by subst hw6; simp
              have ck6 : w6.cell? (ad.add (k * 2)) = some (.int .i64 (gc zs k)) := by subst hw6; simp [go_sem, ck5, lt5]
              have HO6 : Hid (w6.ownsRow w.heap.size 32 2 u10 k (fcells (grownL zs us m most k))) := by subst hw6; exact (by repeat (first | exact HO5.out | refine World.ownsRow.alloc ?_ _ | refine own_drewN ?_ _ | refine own_setOther ?_ (fun g hg => by have := hlt5 g hg; first | omega | (simp; omega)) _))
              have hB6 : Below w.heap.size w w6 := by subst hw6; exact (by repeat (first | exact Below.refl _ _ | assumption | refine Below.drew ?_ | refine below_dN ?_ _ | refine Below.setCell ?_ (by first | omega | (simp; done) | (simp; omega)) _ | refine below_al ?_ (by first | omega | (simp; done) | (simp; omega)) _ | refine below_tr (by assumption) ?_ (by first | omega | (simp; done) | (simp; omega))))
              have lt6 : w5.heap.size < w6.heap.size := by omega
              clear hw6 hz6
              go_wp2_with (at_builtin; go_must (refine wpList_append_lies _ rfl _ _ _ rfl w.heap.size 32 i0 _ 2 16 Try.underlying22 hi0 hz0 hz1 hz2 rfl (by omega) u10 k (fcells (grownL zs us m most k)) rfl (by repeat (first | exact HO6.out | refine World.ownsRow.alloc ?_ _ | refine own_drewN ?_ _ | refine own_setOther ?_ (fun g hg => by have := hlt5 g hg; first | omega | (simp; omega)) _)) _ 1 1 [.int .i64 (most), .int .i64 (gt zs k)] rfl rfl (news2 (by simp [go_sem]) (by simp [go_sem])) (by simp [Value.oneCell']) (by omega) (by simp only [maxLen]; omega) (by omega) (by first | omega | (simp; done) | (simp; omega)) _ rfl ?_; intro g cap w4 hown4 hgrow hat hlt4))
              have hb4 : Below w.heap.size w w4 := below_app (e := 32) (size := 2) (n := k) (xs := fcells (grownL zs us m most k)) (by repeat (first | exact Below.refl _ _ | assumption | refine Below.drew ?_ | refine below_dN ?_ _ | refine Below.setCell ?_ (by first | omega | (simp; done) | (simp; omega)) _ | refine below_al ?_ (by first | omega | (simp; done) | (simp; omega)) _ | refine below_tr (by assumption) ?_ (by first | omega | (simp; done) | (simp; omega)))) (by first | omega | (simp; done) | (simp; omega)) (by repeat (first | exact HO6.out | refine World.ownsRow.alloc ?_ _ | refine own_drewN ?_ _ | refine own_setOther ?_ (fun g hg => by have := hlt5 g hg; first | omega | (simp; omega)) _)) hgrow
              have HO4 : Hid (w4.ownsRow w.heap.size 32 2 (.slice (some ⟨g, 0, none⟩) (k + 1) cap) (k + 1) (fcells (grownL zs us m most (k + 1)))) := by
                show w4.ownsRow _ _ _ _ _ _
                rw [grownL_s, fcells_snoc, hnew]
                exact hown4
              clear hown4 hgrow hat
              go_wp2
              go_roundw
              case rel => exact ⟨k + 1, by omega, by go_num, by show okAll _ = true; rw [hst.out, ho.out, hHIN.out]; rfl, HO4.out, hb4⟩
              case measure => simp [intOf]; omega
          · have hnew : newC zs k m (rdI us k) most = gc zs k + shareV zs k m := by rw [hdef, mx_def, mn_def]; (repeat' split) <;> omega
            go_wp2_with (first | (go_at_call 36; refine (rbytes _ _).mono ?_; rw [hHIN.out]; rintro e w' ⟨rfl, rfl⟩))
            refine (rslow _ _ _ zs _ _ _ _ (Fd.below HR.out (by repeat (first | exact Below.refl _ _ | assumption | refine Below.drew ?_ | refine below_dN ?_ _ | refine Below.setCell ?_ (by first | omega | (simp; done) | (simp; omega)) _ | refine below_al ?_ (by first | omega | (simp; done) | (simp; omega)) _ | refine below_tr (by assumption) ?_ (by first | omega | (simp; done) | (simp; omega)))))).mono ?_
            unfold Ans
            rw [hwz, Int.toNat_natCast]
            simp only [if0, if_true]
            rintro e w3 ⟨rfl, hb3⟩
            have ck3 : w3.cell? (ad.add (k * 2)) = some (.int .i64 (gc zs k)) := by rw [hb3.cell hck2]; exact hck
            have tk3 : w3.cell? ⟨(ad.add (k * 2)).block, (ad.add (k * 2)).off + 1, none⟩ = some (.int .i64 (gt zs k)) := by rw [hb3.cell (p := ⟨(ad.add (k * 2)).block, (ad.add (k * 2)).off + 1, none⟩) hck2]; exact htk
            have ak3 : w3.cell? (bd.add k) = some (.int .i64 (rdI us k)) := by rw [hb3.cell hak2]; exact hak
            have z3 := hb3.size
            have lt1 : (ad.add (k * 2)).block < w3.heap.size := by omega
            have HO3 := Lib.hid (own_below HO.out hb3)
            have hlt3 : ∀ g, u10.ownBlock = some g → g < w3.heap.size := fun g hg => by have := (hlt0 g hg).2; omega
            have hB3 : Below w.heap.size w w3 := (by repeat (first | exact Below.refl _ _ | assumption | refine Below.drew ?_ | refine below_dN ?_ _ | refine Below.setCell ?_ (by first | omega | (simp; done) | (simp; omega)) _ | refine below_al ?_ (by first | omega | (simp; done) | (simp; omega)) _ | refine below_tr (by assumption) ?_ (by first | omega | (simp; done) | (simp; omega))))
            have hs3 := hB3.size
            clear hck htk hak hb3
            go_wp2_with fail
            go_quiet (fail)
            go_wp2_with fail
            go_quiet (fail)
            go_wp2_with fail
            refine (ravoid _ _ _ zs _ _ _ (Fd.below HR.out (by repeat (first | exact Below.refl _ _ | assumption | refine Below.drew ?_ | refine below_dN ?_ _ | refine Below.setCell ?_ (by first | omega | (simp; done) | (simp; omega)) _ | refine below_al ?_ (by first | omega | (simp; done) | (simp; omega)) _ | refine below_tr (by assumption) ?_ (by first | omega | (simp; done) | (simp; omega)))))).mono ?_
            unfold Ans
            rw [hwz0, Int.toNat_natCast]
            simp only [if0, if_true]
            rintro e w5 ⟨rfl, hb5⟩
            have ck5 : w5.cell? (ad.add (k * 2)) = some (.int .i64 (gc zs k)) := by rw [hb5.cell lt1]; exact ck3
            have tk5 : w5.cell? ⟨(ad.add (k * 2)).block, (ad.add (k * 2)).off + 1, none⟩ = some (.int .i64 (gt zs k)) := by rw [hb5.cell (p := ⟨(ad.add (k * 2)).block, (ad.add (k * 2)).off + 1, none⟩) lt1]; exact tk3
            have HO5 := Lib.hid (own_below (own_drewN HO3.out _) hb5)
            have hz5 : w3.heap.size ≤ w5.heap.size := hb5.size
            have lt5 : (ad.add (k * 2)).block < w5.heap.size := by omega
            have hlt5 : ∀ g, u10.ownBlock = some g → g < w5.heap.size := fun g hg => by have := hlt3 g hg; omega
            have hB5 : Below w.heap.size w w5 := (by repeat (first | exact Below.refl _ _ | assumption | refine Below.drew ?_ | refine below_dN ?_ _ | refine Below.setCell ?_ (by first | omega | (simp; done) | (simp; omega)) _ | refine below_al ?_ (by first | omega | (simp; done) | (simp; omega)) _ | refine below_tr (by assumption) ?_ (by first | omega | (simp; done) | (simp; omega))))
            have hs5 := hB5.size
            clear hb5 ck3 tk3
            go_wp2_with fail
            go_quiet (fail)
            refine name_exit ?_
            intro w6 hw6
            have b0 : w6.cell? ⟨w5.heap.size, 0, none⟩ = some (.int .i64 (gc zs k + shareV zs k m)) := by subst hw6; simp [go_sem]
            have b1 : w6.cell? ⟨w5.heap.size, 1, none⟩ = some (.int .i64 (gt zs k)) := by subst hw6; simp [go_sem]
            have bf : w6.frozen? ⟨w5.heap.size, 0, none⟩ = false := by subst hw6; simp [go_sem]
            have hz6 : w6.heap.size = w5.heap.size + 1 := by subst hw6; simp
            have ck6 : w6.cell? (ad.add (k * 2)) = some (.int .i64 (gc zs k)) := by subst hw6; simp [go_sem, ck5, lt5]
            have HO6 : Hid (w6.ownsRow w.heap.size 32 2 u10 k (fcells (grownL zs us m most k))) := by subst hw6; exact (by repeat (first | exact HO5.out | refine World.ownsRow.alloc ?_ _ | refine own_drewN ?_ _ | refine own_setOther ?_ (fun g hg => by have := hlt5 g hg; first | omega | (simp; omega)) _))
            have hB6 : Below w.heap.size w w6 := by subst hw6; exact (by repeat (first | exact Below.refl _ _ | assumption | refine Below.drew ?_ | refine below_dN ?_ _ | refine Below.setCell ?_ (by first | omega | (simp; done) | (simp; omega)) _ | refine below_al ?_ (by first | omega | (simp; done) | (simp; omega)) _ | refine below_tr (by assumption) ?_ (by first | omega | (simp; done) | (simp; omega))))
            have lt6 : w5.heap.size < w6.heap.size := by omega
            clear hw6 hz6
            go_wp2_with (at_builtin; go_must (refine wpList_append_lies _ rfl _ _ _ rfl w.heap.size 32 i0 _ 2 16 Try.underlying22 hi0 hz0 hz1 hz2 rfl (by omega) u10 k (fcells (grownL zs us m most k)) rfl (by repeat (first | exact HO6.out | refine World.ownsRow.alloc ?_ _ | refine own_drewN ?_ _ | refine own_setOther ?_ (fun g hg => by have := hlt5 g hg; first | omega | (simp; omega)) _)) _ 1 1 [.int .i64 (gc zs k + shareV zs k m), .int .i64 (gt zs k)] rfl rfl (news2 (by simp [go_sem]) (by simp [go_sem])) (by simp [Value.oneCell']) (by omega) (by simp only [maxLen]; omega) (by omega) (by first | omega | (simp; done) | (simp; omega)) _ rfl ?_; intro g cap w4 hown4 hgrow hat hlt4))
            have hb4 : Below w.heap.size w w4 := below_app (e := 32) (size := 2) (n := k) (xs := fcells (grownL zs us m most k)) (by repeat (first | exact Below.refl _ _ | assumption | refine Below.drew ?_ | refine below_dN ?_ _ | refine Below.setCell ?_ (by first | omega | (simp; done) | (simp; omega)) _ | refine below_al ?_ (by first | omega | (simp; done) | (simp; omega)) _ | refine below_tr (by assumption) ?_ (by first | omega | (simp; done) | (simp; omega)))) (by first | omega | (simp; done) | (simp; omega)) (by repeat (first | exact HO6.out | refine World.ownsRow.alloc ?_ _ | refine own_drewN ?_ _ | refine own_setOther ?_ (fun g hg => by have := hlt5 g hg; first | omega | (simp; omega)) _)) hgrow
            have HO4 : Hid (w4.ownsRow w.heap.size 32 2 (.slice (some ⟨g, 0, none⟩) (k + 1) cap) (k + 1) (fcells (grownL zs us m most (k + 1)))) := by
              show w4.ownsRow _ _ _ _ _ _
              rw [grownL_s, fcells_snoc, hnew]
              exact hown4
            clear hown4 hgrow hat
            go_wp2
            go_roundw
            case rel => exact ⟨k + 1, by omega, by go_num, by show okAll _ = true; rw [hst.out, ho.out, hHIN.out]; rfl, HO4.out, hb4⟩
            case measure => simp [intOf]; omega
        · rw [if_neg hct, if_neg hca] at hdef e0 e9
          by_cases hcap : most < gc zs k
          · by_cases hlow : most < gc zs k
            · have hnew : newC zs k m (rdI us k) most = gc zs k := by rw [hdef, mx_def, mn_def]; (repeat' split) <;> omega
              go_wp2_with (first | (go_at_call 36; refine (rbytes _ _).mono ?_; rw [hHIN.out]; rintro e w' ⟨rfl, rfl⟩))
              refine (rslow _ _ _ zs _ _ _ _ (Fd.below HR.out (by repeat (first | exact Below.refl _ _ | assumption | refine Below.drew ?_ | refine below_dN ?_ _ | refine Below.setCell ?_ (by first | omega | (simp; done) | (simp; omega)) _ | refine below_al ?_ (by first | omega | (simp; done) | (simp; omega)) _ | refine below_tr (by assumption) ?_ (by first | omega | (simp; done) | (simp; omega)))))).mono ?_
              unfold Ans
              rw [hwz, Int.toNat_natCast]
              simp only [if0, if_true]
              rintro e w3 ⟨rfl, hb3⟩
              have ck3 : w3.cell? (ad.add (k * 2)) = some (.int .i64 (gc zs k)) := by rw [hb3.cell hck2]; exact hck
              have tk3 : w3.cell? ⟨(ad.add (k * 2)).block, (ad.add (k * 2)).off + 1, none⟩ = some (.int .i64 (gt zs k)) := by rw [hb3.cell (p := ⟨(ad.add (k * 2)).block, (ad.add (k * 2)).off + 1, none⟩) hck2]; exact htk
              have ak3 : w3.cell? (bd.add k) = some (.int .i64 (rdI us k)) := by rw [hb3.cell hak2]; exact hak
              have z3 := hb3.size
              have lt1 : (ad.add (k * 2)).block < w3.heap.size := by omega
              have HO3 := Lib.hid (own_below HO.out hb3)
              have hlt3 : ∀ g, u10.ownBlock = some g → g < w3.heap.size := fun g hg => by have := (hlt0 g hg).2; omega
              have hB3 : Below w.heap.size w w3 := (by repeat (first | exact Below.refl _ _ | assumption | refine Below.drew ?_ | refine below_dN ?_ _ | refine Below.setCell ?_ (by first | omega | (simp; done) | (simp; omega)) _ | refine below_al ?_ (by first | omega | (simp; done) | (simp; omega)) _ | refine below_tr (by assumption) ?_ (by first | omega | (simp; done) | (simp; omega))))
              have hs3 := hB3.size
              clear hck htk hak hb3
              go_wp2_with fail
              go_quiet (fail)
              go_wp2_with fail
              go_quiet (fail)
              refine name_exit ?_
              intro w5 hw5
              have ck5 : w5.cell? (ad.add (k * 2)) = some (.int .i64 (gc zs k)) := by subst hw5; exact ck3
              have tk5 : w5.cell? ⟨(ad.add (k * 2)).block, (ad.add (k * 2)).off + 1, none⟩ = some (.int .i64 (gt zs k)) := by subst hw5; exact tk3
              have HO5 : Hid (w5.ownsRow w.heap.size 32 2 u10 k (fcells (grownL zs us m most k))) := by subst hw5; exact HO3.out
              have hz5 : w3.heap.size ≤ w5.heap.size := by subst hw5; exact Nat.le_refl _
              have lt5 : (ad.add (k * 2)).block < w5.heap.size := by omega
              have hlt5 : ∀ g, u10.ownBlock = some g → g < w5.heap.size := fun g hg => by have := hlt3 g hg; omega
              have hB5 : Below w.heap.size w w5 := by subst hw5; exact (by repeat (first | exact Below.refl _ _ | assumption | refine Below.drew ?_ | refine below_dN ?_ _ | refine Below.setCell ?_ (by first | omega | (simp; done) | (simp; omega)) _ | refine below_al ?_ (by first | omega | (simp; done) | (simp; omega)) _ | refine below_tr (by assumption) ?_ (by first | omega | (simp; done) | (simp; omega))))
              have hs5 := hB5.size
              clear hw5 ck3 tk3
              go_wp2_with fail
              go_quiet (fail)
              refine name_exit ?_
              intro w6 hw6
              have b0 : w6.cell? ⟨w5.heap.size, 0, none⟩ = some (.int .i64 (most)) := by subst hw6; simp [go_sem]
              have b1 : w6.cell? ⟨w5.heap.size, 1, none⟩ = some (.int .i64 (gt zs k)) := by subst hw6; simp [go_sem]
              have bf : w6.frozen? ⟨w5.heap.size, 0, none⟩ = false := by subst hw6; simp [go_sem]
              have hz6 : w6.heap.size = w5.heap.size + 1 := by subst hw6; simp
              have ck6 : w6.cell? (ad.add (k * 2)) = some (.int .i64 (gc zs k)) := by subst hw6; simp [go_sem, ck5, lt5]
              have HO6 : Hid (w6.ownsRow w.heap.size 32 2 u10 k (fcells (grownL zs us m most k))) := by subst hw6; exact (by repeat (first | exact HO5.out | refine World.ownsRow.alloc ?_ _ | refine own_drewN ?_ _ | refine own_setOther ?_ (fun g hg => by have := hlt5 g hg; first | omega | (simp; omega)) _))
              have hB6 : Below w.heap.size w w6 := by subst hw6; exact (by repeat (first | exact Below.refl _ _ | assumption | refine Below.drew ?_ | refine below_dN ?_ _ | refine Below.setCell ?_ (by first | omega | (simp; done) | (simp; omega)) _ | refine below_al ?_ (by first | omega | (simp; done) | (simp; omega)) _ | refine below_tr (by assumption) ?_ (by first | omega | (simp; done) | (simp; omega))))
              have lt6 : w5.heap.size < w6.heap.size := by omega
              clear hw6 hz6
              go_wp2_with (at_builtin; go_must (refine wpList_append_lies _ rfl _ _ _ rfl w.heap.size 32 i0 _ 2 16 Try.underlying22 hi0 hz0 hz1 hz2 rfl (by omega) u10 k (fcells (grownL zs us m most k)) rfl (by repeat (first | exact HO6.out | refine World.ownsRow.alloc ?_ _ | refine own_drewN ?_ _ | refine own_setOther ?_ (fun g hg => by have := hlt5 g hg; first | omega | (simp; omega)) _)) _ 1 1 [.int .i64 (gc zs k), .int .i64 (gt zs k)] rfl rfl (news2 (by simp [go_sem]) (by simp [go_sem])) (by simp [Value.oneCell']) (by omega) (by simp only [maxLen]; omega) (by omega) (by first | omega | (simp; done) | (simp; omega)) _ rfl ?_; intro g cap w4 hown4 hgrow hat hlt4))
              have hb4 : Below w.heap.size w w4 := below_app (e := 32) (size := 2) (n := k) (xs := fcells (grownL zs us m most k)) (by repeat (first | exact Below.refl _ _ | assumption | refine Below.drew ?_ | refine below_dN ?_ _ | refine Below.setCell ?_ (by first | omega | (simp; done) | (simp; omega)) _ | refine below_al ?_ (by first | omega | (simp; done) | (simp; omega)) _ | refine below_tr (by assumption) ?_ (by first | omega | (simp; done) | (simp; omega)))) (by first | omega | (simp; done) | (simp; omega)) (by repeat (first | exact HO6.out | refine World.ownsRow.alloc ?_ _ | refine own_drewN ?_ _ | refine own_setOther ?_ (fun g hg => by have := hlt5 g hg; first | omega | (simp; omega)) _)) hgrow
              have HO4 : Hid (w4.ownsRow w.heap.size 32 2 (.slice (some ⟨g, 0, none⟩) (k + 1) cap) (k + 1) (fcells (grownL zs us m most (k + 1)))) := by
                show w4.ownsRow _ _ _ _ _ _
                rw [grownL_s, fcells_snoc, hnew]
                exact hown4
              clear hown4 hgrow hat
              go_wp2
              go_roundw
              case rel => exact ⟨k + 1, by omega, by go_num, by show okAll _ = true; rw [hst.out, ho.out, hHIN.out]; rfl, HO4.out, hb4⟩
              case measure => simp [intOf]; omega
            · have hnew : newC zs k m (rdI us k) most = most := by rw [hdef, mx_def, mn_def]; (repeat' split) <;> omega
              exact absurd hcap hlow
          · have hnew : newC zs k m (rdI us k) most = gc zs k := by rw [hdef, mx_def, mn_def]; (repeat' split) <;> omega
            go_wp2_with (first | (go_at_call 36; refine (rbytes _ _).mono ?_; rw [hHIN.out]; rintro e w' ⟨rfl, rfl⟩))
            refine (rslow _ _ _ zs _ _ _ _ (Fd.below HR.out (by repeat (first | exact Below.refl _ _ | assumption | refine Below.drew ?_ | refine below_dN ?_ _ | refine Below.setCell ?_ (by first | omega | (simp; done) | (simp; omega)) _ | refine below_al ?_ (by first | omega | (simp; done) | (simp; omega)) _ | refine below_tr (by assumption) ?_ (by first | omega | (simp; done) | (simp; omega)))))).mono ?_
            unfold Ans
            rw [hwz, Int.toNat_natCast]
            simp only [if0, if_true]
            rintro e w3 ⟨rfl, hb3⟩
            have ck3 : w3.cell? (ad.add (k * 2)) = some (.int .i64 (gc zs k)) := by rw [hb3.cell hck2]; exact hck
            have tk3 : w3.cell? ⟨(ad.add (k * 2)).block, (ad.add (k * 2)).off + 1, none⟩ = some (.int .i64 (gt zs k)) := by rw [hb3.cell (p := ⟨(ad.add (k * 2)).block, (ad.add (k * 2)).off + 1, none⟩) hck2]; exact htk
            have ak3 : w3.cell? (bd.add k) = some (.int .i64 (rdI us k)) := by rw [hb3.cell hak2]; exact hak
            have z3 := hb3.size
            have lt1 : (ad.add (k * 2)).block < w3.heap.size := by omega
            have HO3 := Lib.hid (own_below HO.out hb3)
            have hlt3 : ∀ g, u10.ownBlock = some g → g < w3.heap.size := fun g hg => by have := (hlt0 g hg).2; omega
            have hB3 : Below w.heap.size w w3 := (by repeat (first | exact Below.refl _ _ | assumption | refine Below.drew ?_ | refine below_dN ?_ _ | refine Below.setCell ?_ (by first | omega | (simp; done) | (simp; omega)) _ | refine below_al ?_ (by first | omega | (simp; done) | (simp; omega)) _ | refine below_tr (by assumption) ?_ (by first | omega | (simp; done) | (simp; omega))))
            have hs3 := hB3.size
            clear hck htk hak hb3
            go_wp2_with fail
            go_quiet (fail)
            go_wp2_with fail
            go_quiet (fail)
            refine name_exit ?_
            intro w5 hw5
            have ck5 : w5.cell? (ad.add (k * 2)) = some (.int .i64 (gc zs k)) := by subst hw5; exact ck3
            have tk5 : w5.cell? ⟨(ad.add (k * 2)).block, (ad.add (k * 2)).off + 1, none⟩ = some (.int .i64 (gt zs k)) := by subst hw5; exact tk3
            have HO5 : Hid (w5.ownsRow w.heap.size 32 2 u10 k (fcells (grownL zs us m most k))) := by subst hw5; exact HO3.out
            have hz5 : w3.heap.size ≤ w5.heap.size := by subst hw5; exact Nat.le_refl _
            have lt5 : (ad.add (k * 2)).block < w5.heap.size := by omega
            have hlt5 : ∀ g, u10.ownBlock = some g → g < w5.heap.size := fun g hg => by have := hlt3 g hg; omega
            have hB5 : Below w.heap.size w w5 := by subst hw5; exact (by repeat (first | exact Below.refl _ _ | assumption | refine Below.drew ?_ | refine below_dN ?_ _ | refine Below.setCell ?_ (by first | omega | (simp; done) | (simp; omega)) _ | refine below_al ?_ (by first | omega | (simp; done) | (simp; omega)) _ | refine below_tr (by assumption) ?_ (by first | omega | (simp; done) | (simp; omega))))
            have hs5 := hB5.size
            clear hw5 ck3 tk3
            go_wp2_with fail
            go_quiet (fail)
            refine name_exit ?_
            intro w6 hw6
            have b0 : w6.cell? ⟨w5.heap.size, 0, none⟩ = some (.int .i64 (gc zs k)) := by subst hw6; simp [go_sem]
            have b1 : w6.cell? ⟨w5.heap.size, 1, none⟩ = some (.int .i64 (gt zs k)) := by subst hw6; simp [go_sem]
            have bf : w6.frozen? ⟨w5.heap.size, 0, none⟩ = false := by subst hw6; simp [go_sem]
            have hz6 : w6.heap.size = w5.heap.size + 1 := by subst hw6; simp
            have ck6 : w6.cell? (ad.add (k * 2)) = some (.int .i64 (gc zs k)) := by subst hw6; simp [go_sem, ck5, lt5]
            have HO6 : Hid (w6.ownsRow w.heap.size 32 2 u10 k (fcells (grownL zs us m most k))) := by subst hw6; exact (by repeat (first | exact HO5.out | refine World.ownsRow.alloc ?_ _ | refine own_drewN ?_ _ | refine own_setOther ?_ (fun g hg => by have := hlt5 g hg; first | omega | (simp; omega)) _))
            have hB6 : Below w.heap.size w w6 := by subst hw6; exact (by repeat (first | exact Below.refl _ _ | assumption | refine Below.drew ?_ | refine below_dN ?_ _ | refine Below.setCell ?_ (by first | omega | (simp; done) | (simp; omega)) _ | refine below_al ?_ (by first | omega | (simp; done) | (simp; omega)) _ | refine below_tr (by assumption) ?_ (by first | omega | (simp; done) | (simp; omega))))
            have lt6 : w5.heap.size < w6.heap.size := by omega
            clear hw6 hz6
            go_wp2_with (at_builtin; go_must (refine wpList_append_lies _ rfl _ _ _ rfl w.heap.size 32 i0 _ 2 16 Try.underlying22 hi0 hz0 hz1 hz2 rfl (by omega) u10 k (fcells (grownL zs us m most k)) rfl (by repeat (first | exact HO6.out | refine World.ownsRow.alloc ?_ _ | refine own_drewN ?_ _ | refine own_setOther ?_ (fun g hg => by have := hlt5 g hg; first | omega | (simp; omega)) _)) _ 1 1 [.int .i64 (gc zs k), .int .i64 (gt zs k)] rfl rfl (news2 (by simp [go_sem]) (by simp [go_sem])) (by simp [Value.oneCell']) (by omega) (by simp only [maxLen]; omega) (by omega) (by first | omega | (simp; done) | (simp; omega)) _ rfl ?_; intro g cap w4 hown4 hgrow hat hlt4))
            have hb4 : Below w.heap.size w w4 := below_app (e := 32) (size := 2) (n := k) (xs := fcells (grownL zs us m most k)) (by repeat (first | exact Below.refl _ _ | assumption | refine Below.drew ?_ | refine below_dN ?_ _ | refine Below.setCell ?_ (by first | omega | (simp; done) | (simp; omega)) _ | refine below_al ?_ (by first | omega | (simp; done) | (simp; omega)) _ | refine below_tr (by assumption) ?_ (by first | omega | (simp; done) | (simp; omega)))) (by first | omega | (simp; done) | (simp; omega)) (by repeat (first | exact HO6.out | refine World.ownsRow.alloc ?_ _ | refine own_drewN ?_ _ | refine own_setOther ?_ (fun g hg => by have := hlt5 g hg; first | omega | (simp; omega)) _)) hgrow
            have HO4 : Hid (w4.ownsRow w.heap.size 32 2 (.slice (some ⟨g, 0, none⟩) (k + 1) cap) (k + 1) (fcells (grownL zs us m most (k + 1)))) := by
              show w4.ownsRow _ _ _ _ _ _
              rw [grownL_s, fcells_snoc, hnew]
              exact hown4
            clear hown4 hgrow hat
            go_wp2
            go_roundw
            case rel => exact ⟨k + 1, by omega, by go_num, by show okAll _ = true; rw [hst.out, ho.out, hHIN.out]; rfl, HO4.out, hb4⟩
            case measure => simp [intOf]; omega
      · have hin' : inB (rdI us k) 0 1073741824 = false := by simpa using hin
        have hE1 := HE.out.2 (hnt.out hin')
        have hG : grownR zs us m most = [] := by rw [grownR, hE1]; rfl
        have HG := Lib.hid hG
        have HE1 := Lib.hid hE1
        have hHIN := Lib.hid hin'
        clear hin hin' hE1 hG
        go_wp2_with (first | (go_at_call 36; refine (rbytes _ _).mono ?_; rw [hHIN.out]; rintro e w' ⟨rfl, rfl⟩))
        go_ret2
        rw [HG.out, HE1.out]
        exact RetG.nil rfl (by repeat (first | exact Below.refl _ _ | assumption | refine Below.drew ?_ | refine below_dN ?_ _ | refine Below.setCell ?_ (by first | omega | (simp; done) | (simp; omega)) _ | refine below_al ?_ (by first | omega | (simp; done) | (simp; omega)) _ | refine below_tr (by assumption) ?_ (by first | omega | (simp; done) | (simp; omega))))
    · have hkn : k = nb := by omega
      subst hkn
      have hall : okAll us = true := by have := ho.out; rwa [List.take_of_length_le (by rw [HLU.out]; omega)] at this
      have hE0 := HE.out.1 hall
      have hG : grownR zs us m most = grownL zs us m most k := by rw [grownR, hE0, if_pos rfl, HL.out]
      have HG := Lib.hid hG
      have HE0 := Lib.hid hE0
      obtain ⟨A', c', he, hfd⟩ := Fd_own HO.out
      have HFD := Lib.hid hfd
      subst he
      clear hfd hall hE0 hG
      go_wp2
      go_ret2
      rw [HG.out, HE0.out]
      refine ⟨A', c', ?_, ?_, (by repeat (first | exact Below.refl _ _ | assumption | refine Below.drew ?_ | refine below_dN ?_ _ | refine Below.setCell ?_ (by first | omega | (simp; done) | (simp; omega)) _ | refine below_al ?_ (by first | omega | (simp; done) | (simp; omega)) _ | refine below_tr (by assumption) ?_ (by first | omega | (simp; done) | (simp; omega))))⟩
      · rw [grownL_len]; rfl
      · rw [grownL_len]; exact HFD.out
