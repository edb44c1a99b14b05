/- Layer 16: step, walked. -/
import Derived.Test.YtbppdgekjdpgiaaSt
import Derived.Deep.RegionHeld3
namespace Go.Proofs.Ytbppdgekjdpgiaa.C
open Go.RowKit
set_option linter.unusedVariables false
set_option linter.unusedSimpArgs false
attribute [local go_sem high] max2_mx min2_mn max_two min_two
attribute [local go_sem ↓] Go.wp_at_zero Go.wp_at_succ

def cntV (q : QS) (s : Nat) : Int := if s < q.n then ((q.ss s).length : Int) else 0
theorem count_any {w : World} {base g : Nat} {q : QS} {F : Nat → Prop} (h : OQ w base g q F) (k : Ok q) (s : Nat) (hs : s ≤ 65535) : Calls Try.prog 20 #[.pointer (some ⟨g, 0, none⟩), .int .u16 s] w fun e w' => e = .returned (.int .i64 (cntV q s)) ∧ w = w' := by
  obtain ⟨hb, L, hq, hF⟩ := h
  unfold cntV
  by_cases h1 : s < q.n
  · rw [if_pos h1]
    exact count_t base g q L s w hq h1 k.n1
  · rw [if_neg h1]
    exact count_f base g q L s w hq (by omega) hs
theorem Rd.kept {w w' : World} {g n : Nat} {xs : List Int} (h : Rd .u8 w (some ⟨g, 0, none⟩) n xs) (hk : w'.heap[g]? = w.heap[g]?) : Rd .u8 w' (some ⟨g, 0, none⟩) n xs :=
  ⟨h.1, h.2.1, fun hn => by
    obtain ⟨ad, e, hc⟩ := h.2.2 hn
    cases e
    exact ⟨_, rfl, fun j hj => (by have := hc j hj; rw [add_plain] at this ⊢; exact (World.cell?_of_block (w := w) (w' := w') hk).trans this)⟩⟩
def StepP (base g gr bN : Nat) (w : World) (e : Ending) (w' : World) : Prop := e = .returned (.bool true) ∧ Below base w w' ∧ ∃ q' r' vL', RR q' r' ∧ BT w' base g gr q' r' vL' bN (fun _ => False)
set_option maxHeartbeats 8000000 in
set_option maxRecDepth 100000 in
theorem step_c (base g gr bN : Nat) (q : QS) (r : RS) (vL : Value) (kd : Int) (sn : Nat) (pr : Int) (un : Bool) (A : Option Addr) (dn dc : Nat) (ds : List Int) (x : Int) (w : World) (h : BT w base g gr q r vL bN (fun _ => False)) (k : RR q r) (hsn : sn ≤ 65535) (hr : ∀ W, Below base w W → Rd .u8 W A dn ds) (hnone : A = none → dc = 0) :
    Calls Try.prog 19 #[.pointer (some ⟨g, 0, none⟩), .pointer (some ⟨gr, 0, none⟩), .agg #[.int .i64 kd, .int .u16 sn, .int .u32 pr, .bool un, .slice A dn dc, .int .i64 x]] w (StepP base g gr bN w) := by
  have hu36 := Try.underlying36
  have hu34 := Try.underlying34
  have hbase := h.rm.hb
  have H := Lib.hid h
  have HK := Lib.hid k
  have HR := Lib.hid hr
  have HN := Lib.hid hnone
  clear h k hr hnone
  go_enter Try.func19, Try.ntmps19
  go_upto_region 1 with fail
  refine name_world ?_
  intro w1 hw1
  have hB1 : Below w.heap.size w w1 := by rw [hw1]; exact (by repeat (first | with_reducible exact Below.refl _ _ | with_reducible assumption | with_reducible refine Below.drew ?_ | with_reducible refine below_dN ?_ _ | with_reducible refine Below.setCell ?_ (by first | omega | (simp; done) | (simp; omega)) _ | with_reducible refine below_al ?_ (by first | omega | (simp; done) | (simp; omega)) _ | exact Below.refl _ _ | assumption | refine Below.drew ?_ | refine below_dN ?_ _ | refine Below.setCell ?_ (by first | omega | (simp; done) | (simp; omega)) _ | refine below_al ?_ (by first | omega | (simp; done) | (simp; omega)) _ | refine below_tr (by assumption) ?_ (by first | omega | (simp; done) | (simp; omega)) | fail))
  have hbx : w1.heap[w.heap.size]? = some (.cells #[.int .i64 kd, .int .u16 sn, .int .u32 pr, .bool un, .slice A dn dc, .int .i64 x] 49 (0, 0)) := by rw [hw1]; exact heap_alloc_new w _
  have H1 := Lib.hid (H.out.box hB1 w.heap.size (Nat.le_refl _) (lt_of_heap hbx))
  have HBX := Lib.hid hbx
  have HB1 := Lib.hid (hB1.mono hbase)
  have o0 := cell_of_row w1 _ 0 _ 49 (0, 0) hbx
  have o1 := cell_of_row w1 _ 1 _ 49 (0, 0) hbx
  have o2 := cell_of_row w1 _ 2 _ 49 (0, 0) hbx
  have o3 := cell_of_row w1 _ 3 _ 49 (0, 0) hbx
  have o4 := cell_of_row w1 _ 4 _ 49 (0, 0) hbx
  have o5 := cell_of_row w1 _ 5 _ 49 (0, 0) hbx
  clear hw1 hbx hB1
  by_cases k1 : kd = 1
  · subst k1
    clear o5
    have hrd1 := HR.out w1 HB1.out
    have hb1 : base ≤ w1.heap.size := H1.out.rm.hb
    have HRD1 := Lib.hid hrd1
    clear hrd1
    have HD := Lib.hid (H1.out.bel ((Below.refl _ w1).drew))
    have HBD := Lib.hid (HB1.out.drew)
    have HXD := Lib.hid (show w1.drew.heap[w.heap.size]? = _ from HBX.out)
    have HRDD := Lib.hid (HR.out _ HBD.out)
    go_upto_region 3 with fail
    go_region_held3 (fun W => W.cell? ⟨w.heap.size, 1, none⟩ = some (.int .u16 sn) ∧ W.cell? ⟨w.heap.size, 2, none⟩ = some (.int .u32 pr) ∧ W.cell? ⟨w.heap.size, 3, none⟩ = some (.bool un) ∧ W.cell? ⟨w.heap.size, 4, none⟩ = some (.slice A dn dc)) (first | exact ⟨o1, o2, o3, o4⟩ | exact ⟨q1, q2, q3, q4⟩ | exact ⟨p1, p2, p3, p4⟩) (first
      | (go_at_call 11; refine (push_q HD.out HK.out sn dn dc pr un A ds HRDD.out hsn).mono ?_; rintro e w2 ⟨rfl, hbt2, hb2, hx2⟩; have HBT2 := Lib.hid hbt2; have HB2 := Lib.hid (HBD.out.trans hb2); have hx22 := (hx2 _ rfl).trans HXD.out; have q1 := cell_of_row w2 _ 1 _ 49 (0, 0) hx22; have q2 := cell_of_row w2 _ 2 _ 49 (0, 0) hx22; have q3 := cell_of_row w2 _ 3 _ 49 (0, 0) hx22; have q4 := cell_of_row w2 _ 4 _ 49 (0, 0) hx22; have HX2 := Lib.hid hx22; clear hbt2 hb2 hx2 hx22; go_simp)
      | (go_at_call 24; refine (push_r HBT2.out HK.out HBT2.out.rm.hb dn dc A (HR.out _ HB2.out) HN.out hsn).mono ?_; rintro e w3 ⟨rfl, hb3, r', vL', hk3, hbt3, hx3⟩; have HBT3 := Lib.hid hbt3; have HK3 := Lib.hid hk3; have HB3 := Lib.hid (HB2.out.trans hb3); have hx33 := (hx3 _ rfl).trans HX2.out; have p1 := cell_of_row w3 _ 1 _ 49 (0, 0) hx33; have p2 := cell_of_row w3 _ 2 _ 49 (0, 0) hx33; have p3 := cell_of_row w3 _ 3 _ 49 (0, 0) hx33; have p4 := cell_of_row w3 _ 4 _ 49 (0, 0) hx33; have HX3 := Lib.hid hx33; clear hbt3 hb3 hx3 hk3 hx33; go_simp))
    have hsn0 : (0 : Int) ≤ (sn : Int) := by omega
    have HT := Lib.hid (show _ ∧ _ from ⟨HBT3.out, HK3.out⟩)
    have HBW := Lib.hid HB3.out
    have HBOX := Lib.hid HX3.out
    clear o0 o1 o2 o3 o4 q1 q2 q3 q4 p1 p2 p3 p4
    go_wp2_with fail
    refine (nxt_any HT.out.1.oq HT.out.2.i).mono ?_
    rintro e w6 ⟨rfl, hb6⟩
    have HT6 := Lib.hid (HT.out.1.bel hb6)
    have HB6 := Lib.hid (HBW.out.trans (hb6.mono HT.out.1.rm.hb))
    have HX6 := Lib.hid ((hb6.block _ (lt_of_heap HBOX.out)).trans HBOX.out)
    clear hb6
    go_wp2_with fail
    refine (rnxt HT6.out.rm HT.out.2).mono ?_
    rintro e w7 ⟨rfl, mm, hw7⟩
    have HT7 := Lib.hid (show BT w7 base g gr _ _ _ bN _ by rw [hw7]; exact HT6.out.bel (below_drewN _ _ _))
    have HB7 := Lib.hid (show Below base w w7 by rw [hw7]; exact HB6.out.trans (below_drewN _ _ _))
    have hx7 := (show w7.heap[w.heap.size]? = w6.heap[w.heap.size]? by rw [hw7]; rfl).trans HX6.out
    clear hw7
    have o1 := cell_of_row w7 _ 1 _ 49 (0, 0) hx7
    have c5 := HT7.out.rm.cells.c5
    rw [HT.out.2.out] at c5
    have hgr := HT7.out.rm.cells.lt
    have hkk := HT.out.2.i.ok
    have t0 := hkk.w0
    have t1 := hkk.t0
    have t2 : _ ≤ (1073741824 : Int) := Int.le_trans hkk.wt hkk.m1
    have HC14 := Lib.hid (fun n => quiet_sym (held_s (HT7.out.oq.drewN n) HT.out.2.i.ok))
    have HC13 := Lib.hid (fun n => quiet_sym (waiting_s (HT7.out.oq.drewN n)))
    have HC17 := Lib.hid (fun n => quiet_sym (taken_s (HT7.out.oq.drewN n)))
    have HC20 := Lib.hid (fun n => quiet_sym (count_any (HT7.out.oq.drewN n) HT.out.2.i.ok sn hsn))
    have hc29 := fun n => Calls.quiet_of (rwaiting (HT7.out.rm.drewN n) HT.out.2)
    rw [← HT.out.2.wai] at hc29
    have HC29 := Lib.hid hc29
    have hc30 := fun n => quiet_sym (rcount (HT7.out.rm.drewN n) HT.out.2 sn)
    rw [show (((fl (r').L sn).length : Nat) : Int) = cntV (pushR q sn pr un ds) sn from by rw [HT.out.2.count sn]; unfold cntV; split <;> rfl] at hc30
    have HC30 := Lib.hid hc30
    clear hx7 hc29 hc30 hkk
    go_wp2_with fail
    go_quiet ((first
      | (go_at_call 14; exact HC14.out _)
      | (go_at_call 13; exact HC13.out _)
      | (go_at_call 17; exact HC17.out _)
      | (go_at_call 20; exact HC20.out _)
      | (go_at_call 29; exact HC29.out _)
      | (go_at_call 30; exact HC30.out _)))
    go_wp2
    go_ret
    exact ⟨rfl, below_dN HB7.out _, _, _, _, HT.out.2, (HT7.out.bel (below_drewN _ _ _)).unbox⟩
  by_cases k2 : kd = 2
  · subst k2
    have b1 : ((2 : Int) == 1) = false := rfl
    clear o1 o2 o3 o4
    by_cases hno : x < 1 ∨ nextF q < 0
    · have HNO := Lib.hid hno
      clear hno
      go_wp2_with fail
      refine (take_no_l H1.out.oq HK.out.i.ok x HNO.out).mono ?_
      rintro e' w2 ⟨rfl, hb2⟩
      have HBT2 := Lib.hid (H1.out.bel hb2)
      have HB2 := Lib.hid (HB1.out.trans (hb2.mono H1.out.rm.hb))
      have HX2 := Lib.hid ((hb2.block _ (lt_of_heap HBX.out)).trans HBX.out)
      clear hb2 o0 o5
      go_upto_region 7 with fail
      refine name_world ?_
      intro w3 hw3
      have hB3 : Below w2.heap.size w2 w3 := by rw [hw3]; exact (by repeat (first | with_reducible exact Below.refl _ _ | with_reducible assumption | with_reducible refine Below.drew ?_ | with_reducible refine below_dN ?_ _ | with_reducible refine Below.setCell ?_ (by first | omega | (simp; done) | (simp; omega)) _ | with_reducible refine below_al ?_ (by first | omega | (simp; done) | (simp; omega)) _ | exact Below.refl _ _ | assumption | refine Below.drew ?_ | refine below_dN ?_ _ | refine Below.setCell ?_ (by first | omega | (simp; done) | (simp; omega)) _ | refine below_al ?_ (by first | omega | (simp; done) | (simp; omega)) _ | refine below_tr (by assumption) ?_ (by first | omega | (simp; done) | (simp; omega)) | fail))
      have hbx3 : w3.heap[w2.heap.size]? = some (.cells #[.int .u16 0, .int .u16 0, .int .u32 0, .bool false, .slice none 0 0, .bool false, .bool false] 36 (0, 0)) := by rw [hw3]; exact heap_alloc_new w2 _
      clear hw3
      have HBT3 := Lib.hid (HBT2.out.bel hB3)
      have HB3 := Lib.hid (HB2.out.trans (hB3.mono HBT2.out.rm.hb))
      have hx33 := (hB3.block _ (lt_of_heap HX2.out)).trans HX2.out
      have o5 := cell_of_row w3 _ 5 _ 49 (0, 0) hx33
      have HX3 := Lib.hid hx33
      have HA3 := Lib.hid hbx3
      clear hB3 hbx3 hx33
      go_wp2_with fail
      refine (rtake_no HBT3.out.rm HK.out x HNO.out).mono ?_
      rintro e' w4 ⟨rfl, hb4⟩
      have HBT4 := Lib.hid (HBT3.out.bel hb4)
      have HB4 := Lib.hid (HB3.out.trans (hb4.mono HBT3.out.rm.hb))
      have HX4 := Lib.hid ((hb4.block _ (lt_of_heap HX3.out)).trans HX3.out)
      have HA4 := Lib.hid ((hb4.block _ (lt_of_heap HA3.out)).trans HA3.out)
      clear hb4 o5
      go_upto_region 8 with fail
      refine name_world ?_
      intro w5 hw5
      have hB5 : Below w4.heap.size w4 w5 := by rw [hw5]; exact (by repeat (first | with_reducible exact Below.refl _ _ | with_reducible assumption | with_reducible refine Below.drew ?_ | with_reducible refine below_dN ?_ _ | with_reducible refine Below.setCell ?_ (by first | omega | (simp; done) | (simp; omega)) _ | with_reducible refine below_al ?_ (by first | omega | (simp; done) | (simp; omega)) _ | exact Below.refl _ _ | assumption | refine Below.drew ?_ | refine below_dN ?_ _ | refine Below.setCell ?_ (by first | omega | (simp; done) | (simp; omega)) _ | refine below_al ?_ (by first | omega | (simp; done) | (simp; omega)) _ | refine below_tr (by assumption) ?_ (by first | omega | (simp; done) | (simp; omega)) | fail))
      have hbx5 : w5.heap[w4.heap.size]? = some (.cells #[.int .u16 0, .int .u16 0, .int .u32 0, .bool false, .slice none 0 0, .bool false, .bool false] 36 (0, 0)) := by rw [hw5]; exact heap_alloc_new w4 _
      clear hw5
      have HBT5 := Lib.hid (HBT4.out.bel hB5)
      have HB5 := Lib.hid (HB4.out.trans (hB5.mono HBT4.out.rm.hb))
      have HX5 := Lib.hid ((hB5.block _ (lt_of_heap HX4.out)).trans HX4.out)
      have hA5 := (hB5.block _ (lt_of_heap HA4.out)).trans HA4.out
      have a0 := cell_of_row w5 _ 0 _ 36 (0, 0) hA5
      have a1 := cell_of_row w5 _ 1 _ 36 (0, 0) hA5
      have a2 := cell_of_row w5 _ 2 _ 36 (0, 0) hA5
      have a3 := cell_of_row w5 _ 3 _ 36 (0, 0) hA5
      have a4 := cell_of_row w5 _ 4 _ 36 (0, 0) hA5
      have a5 := cell_of_row w5 _ 5 _ 36 (0, 0) hA5
      have a6 := cell_of_row w5 _ 6 _ 36 (0, 0) hA5
      have d0 := cell_of_row w5 _ 0 _ 36 (0, 0) hbx5
      have d1 := cell_of_row w5 _ 1 _ 36 (0, 0) hbx5
      have d2 := cell_of_row w5 _ 2 _ 36 (0, 0) hbx5
      have d3 := cell_of_row w5 _ 3 _ 36 (0, 0) hbx5
      have d4 := cell_of_row w5 _ 4 _ 36 (0, 0) hbx5
      have d5 := cell_of_row w5 _ 5 _ 36 (0, 0) hbx5
      have d6 := cell_of_row w5 _ 6 _ 36 (0, 0) hbx5
      clear hA5 hbx5 hB5
      go_wp2_with fail
      refine (same_c 0 0 0 false false false none none 0 0 0 [] w5 ⟨rfl, by decide, fun h => absurd h (by decide)⟩ ⟨rfl, by decide, fun h => absurd h (by decide)⟩).mono ?_
      rintro e' w9 ⟨rfl, hb9⟩
      have HBT9 := Lib.hid (HBT5.out.bel hb9)
      have HB9 := Lib.hid (HB5.out.trans (hb9.mono HBT5.out.rm.hb))
      have HX9 := Lib.hid ((hb9.block _ (lt_of_heap HX5.out)).trans HX5.out)
      clear hb9
      have hsn0 : (0 : Int) ≤ (sn : Int) := by omega
      have HT := Lib.hid (show _ ∧ _ from ⟨HBT9.out, HK.out⟩)
      have HBW := Lib.hid HB9.out
      have HBOX := Lib.hid HX9.out
      clear a0 a1 a2 a3 a4 a5 a6 d0 d1 d2 d3 d4 d5 d6
      go_wp2_with fail
      refine (nxt_any HT.out.1.oq HT.out.2.i).mono ?_
      rintro e w6 ⟨rfl, hb6⟩
      have HT6 := Lib.hid (HT.out.1.bel hb6)
      have HB6 := Lib.hid (HBW.out.trans (hb6.mono HT.out.1.rm.hb))
      have HX6 := Lib.hid ((hb6.block _ (lt_of_heap HBOX.out)).trans HBOX.out)
      clear hb6
      go_wp2_with fail
      refine (rnxt HT6.out.rm HT.out.2).mono ?_
      rintro e w7 ⟨rfl, mm, hw7⟩
      have HT7 := Lib.hid (show BT w7 base g gr _ _ _ bN _ by rw [hw7]; exact HT6.out.bel (below_drewN _ _ _))
      have HB7 := Lib.hid (show Below base w w7 by rw [hw7]; exact HB6.out.trans (below_drewN _ _ _))
      have hx7 := (show w7.heap[w.heap.size]? = w6.heap[w.heap.size]? by rw [hw7]; rfl).trans HX6.out
      clear hw7
      have o1 := cell_of_row w7 _ 1 _ 49 (0, 0) hx7
      have c5 := HT7.out.rm.cells.c5
      rw [HT.out.2.out] at c5
      have hgr := HT7.out.rm.cells.lt
      have hkk := HT.out.2.i.ok
      have t0 := hkk.w0
      have t1 := hkk.t0
      have t2 : _ ≤ (1073741824 : Int) := Int.le_trans hkk.wt hkk.m1
      have HC14 := Lib.hid (fun n => quiet_sym (held_s (HT7.out.oq.drewN n) HT.out.2.i.ok))
      have HC13 := Lib.hid (fun n => quiet_sym (waiting_s (HT7.out.oq.drewN n)))
      have HC17 := Lib.hid (fun n => quiet_sym (taken_s (HT7.out.oq.drewN n)))
      have HC20 := Lib.hid (fun n => quiet_sym (count_any (HT7.out.oq.drewN n) HT.out.2.i.ok sn hsn))
      have hc29 := fun n => Calls.quiet_of (rwaiting (HT7.out.rm.drewN n) HT.out.2)
      rw [← HT.out.2.wai] at hc29
      have HC29 := Lib.hid hc29
      have hc30 := fun n => quiet_sym (rcount (HT7.out.rm.drewN n) HT.out.2 sn)
      rw [show (((fl (r).L sn).length : Nat) : Int) = cntV q sn from by rw [HT.out.2.count sn]; unfold cntV; split <;> rfl] at hc30
      have HC30 := Lib.hid hc30
      clear hx7 hc29 hc30 hkk
      go_wp2_with fail
      go_quiet ((first
        | (go_at_call 14; exact HC14.out _)
        | (go_at_call 13; exact HC13.out _)
        | (go_at_call 17; exact HC17.out _)
        | (go_at_call 20; exact HC20.out _)
        | (go_at_call 29; exact HC29.out _)
        | (go_at_call 30; exact HC30.out _)))
      go_wp2
      go_ret
      exact ⟨rfl, below_dN HB7.out _, _, _, _, HT.out.2, (HT7.out.bel (below_drewN _ _ _)).unbox⟩
    · rcases HK.out.cases with ⟨hn1, hn2⟩ | ⟨pre, e, post, ms, hL, hpre, hnx, hst, hss, hrn, hget, hopn⟩
      · exact absurd (Or.inr hn1) hno
      · obtain ⟨xn, rfl⟩ : ∃ xn : Nat, x = (xn : Int) := ⟨x.toNat, by omega⟩
        have HC := Lib.hid (show _ ∧ _ ∧ _ ∧ _ ∧ _ ∧ _ ∧ _ ∧ _ from ⟨hL, hpre, hnx, hst, hss, hrn, hget, hopn⟩)
        have hxn : 1 ≤ xn := by omega
        clear hL hpre hnx hst hss hrn hget hopn hno
        go_wp2_with fail
        refine (take_q H1.out HK.out pre post e ms HC.out.2.2.1 HC.out.2.2.2.1 HC.out.2.2.2.2.1 xn hxn).mono ?_
        rintro e' w2 ⟨gd, cd, he, hbt2, hb2, hx2, hrd2, hg1, hg2⟩
        obtain ⟨dt, hdt⟩ : ∃ dt, dt = (e.data.drop e.at_).take xn := ⟨_, rfl⟩
        obtain ⟨sv, hsv⟩ : ∃ sv, sv = (entB r e).ssn := ⟨_, rfl⟩
        obtain ⟨bg, hbg⟩ : ∃ bg, bg = decide (e.at_ = 0) := ⟨_, rfl⟩
        obtain ⟨en, hen⟩ : ∃ en, en = decide (rest e ≤ xn) := ⟨_, rfl⟩
        rw [← hdt, ← hsv, ← hbg, ← hen] at he
        rw [← hdt] at hrd2
        subst he
        have HBT2 := Lib.hid hbt2
        have HB2 := Lib.hid (HB1.out.trans hb2)
        have hx22 := (hx2 _ rfl).trans HBX.out
        have HRD2 := Lib.hid hrd2
        have HGD := Lib.hid (show w1.heap.size ≤ gd ∧ gd < w2.heap.size from ⟨hg1, hg2⟩)
        have HEQ := Lib.hid (show _ ∧ _ ∧ _ ∧ _ from ⟨hdt, hsv, hbg, hen⟩)
        have HX2 := Lib.hid hx22
        clear hbt2 hb2 hx2 hrd2 hg1 hg2 hdt hsv hbg hen hx22 o0 o5
        go_upto_region 7 with fail
        refine name_world ?_
        intro w3 hw3
        have hB3 : Below w2.heap.size w2 w3 := by rw [hw3]; exact (by repeat (first | with_reducible exact Below.refl _ _ | with_reducible assumption | with_reducible refine Below.drew ?_ | with_reducible refine below_dN ?_ _ | with_reducible refine Below.setCell ?_ (by first | omega | (simp; done) | (simp; omega)) _ | with_reducible refine below_al ?_ (by first | omega | (simp; done) | (simp; omega)) _ | exact Below.refl _ _ | assumption | refine Below.drew ?_ | refine below_dN ?_ _ | refine Below.setCell ?_ (by first | omega | (simp; done) | (simp; omega)) _ | refine below_al ?_ (by first | omega | (simp; done) | (simp; omega)) _ | refine below_tr (by assumption) ?_ (by first | omega | (simp; done) | (simp; omega)) | fail))
        have hbx3 : w3.heap[w2.heap.size]? = some (.cells #[.int .u16 e.st, .int .u16 sv, .int .u32 e.proto, .bool e.un, .slice (some ⟨gd, 0, none⟩) dt.length cd, .bool bg, .bool en] 36 (0, 0)) := by rw [hw3]; exact heap_alloc_new w2 _
        clear hw3
        have HBT3 := Lib.hid (HBT2.out.bel hB3)
        have HB3 := Lib.hid (HB2.out.trans (hB3.mono HBT2.out.rm.hb))
        have hx33 := (hB3.block _ (lt_of_heap HX2.out)).trans HX2.out
        have HRD3 := Lib.hid (HRD2.out.below hB3)
        have o5 := cell_of_row w3 _ 5 _ 49 (0, 0) hx33
        have HX3 := Lib.hid hx33
        have HA3 := Lib.hid hbx3
        have HG3 := Lib.hid (show ∀ b, RF gr bN vL r b → b < w1.heap.size from fun b hb => (H1.out.rm.lt b hb).2)
        have HL12 := Lib.hid (show w1.heap.size ≤ w2.heap.size by have := HGD.out; omega)
        clear hB3 hbx3 hx33
        go_wp2_with fail
        refine (take_r (q' := takeQ q e.st (toM e) ms xn) HBT3.out HK.out pre post e ms HC.out.1 HC.out.2.1 HC.out.2.2.2.2.1 HC.out.2.2.2.2.2.1 HC.out.2.2.2.2.2.2.1 HC.out.2.2.2.2.2.2.2 xn hxn).mono ?_
        rintro e' w4 ⟨A4, c4, vL4, he, hbt4, hk4, hb4, hx4, hrd4⟩
        rw [← HEQ.out.1, ← HEQ.out.2.1, ← HEQ.out.2.2.1, ← HEQ.out.2.2.2] at he
        rw [← HEQ.out.1] at hrd4
        subst he
        have HX4 := Lib.hid ((hx4 _ (lt_of_heap HX3.out) (HBT3.out.x _ rfl).2).trans HX3.out)
        have HA4 := Lib.hid ((hx4 _ (lt_of_heap HA3.out) (fun hf => by have := HG3.out _ hf; have := HL12.out; omega)).trans HA3.out)
        have HRA4 := Lib.hid (Rd.kept HRD3.out (hx4 _ (by have := HGD.out; have := lt_of_heap HA3.out; omega) (fun hf => by have := HG3.out _ hf; have := HGD.out; omega)))
        have HBT4 := Lib.hid hbt4
        have HK4 := Lib.hid hk4
        have HB4 := Lib.hid (HB3.out.trans hb4)
        have HRD4 := Lib.hid hrd4
        clear hbt4 hk4 hb4 hx4 hrd4 o5
        go_upto_region 8 with fail
        refine name_world ?_
        intro w5 hw5
        have hB5 : Below w4.heap.size w4 w5 := by rw [hw5]; exact (by repeat (first | with_reducible exact Below.refl _ _ | with_reducible assumption | with_reducible refine Below.drew ?_ | with_reducible refine below_dN ?_ _ | with_reducible refine Below.setCell ?_ (by first | omega | (simp; done) | (simp; omega)) _ | with_reducible refine below_al ?_ (by first | omega | (simp; done) | (simp; omega)) _ | exact Below.refl _ _ | assumption | refine Below.drew ?_ | refine below_dN ?_ _ | refine Below.setCell ?_ (by first | omega | (simp; done) | (simp; omega)) _ | refine below_al ?_ (by first | omega | (simp; done) | (simp; omega)) _ | refine below_tr (by assumption) ?_ (by first | omega | (simp; done) | (simp; omega)) | fail))
        have hbx5 : w5.heap[w4.heap.size]? = some (.cells #[.int .u16 e.st, .int .u16 sv, .int .u32 e.proto, .bool e.un, .slice A4 dt.length c4, .bool bg, .bool en] 36 (0, 0)) := by rw [hw5]; exact heap_alloc_new w4 _
        clear hw5
        have HBT5 := Lib.hid (HBT4.out.bel hB5)
        have HB5 := Lib.hid (HB4.out.trans (hB5.mono HBT4.out.rm.hb))
        have HX5 := Lib.hid ((hB5.block _ (lt_of_heap HX4.out)).trans HX4.out)
        have hA5 := (hB5.block _ (lt_of_heap HA4.out)).trans HA4.out
        have HRA5 := Lib.hid (HRA4.out.below hB5)
        have HRD5 := Lib.hid (HRD4.out.below hB5)
        have a0 := cell_of_row w5 _ 0 _ 36 (0, 0) hA5
        have a1 := cell_of_row w5 _ 1 _ 36 (0, 0) hA5
        have a2 := cell_of_row w5 _ 2 _ 36 (0, 0) hA5
        have a3 := cell_of_row w5 _ 3 _ 36 (0, 0) hA5
        have a4 := cell_of_row w5 _ 4 _ 36 (0, 0) hA5
        have a5 := cell_of_row w5 _ 5 _ 36 (0, 0) hA5
        have a6 := cell_of_row w5 _ 6 _ 36 (0, 0) hA5
        have d0 := cell_of_row w5 _ 0 _ 36 (0, 0) hbx5
        have d1 := cell_of_row w5 _ 1 _ 36 (0, 0) hbx5
        have d2 := cell_of_row w5 _ 2 _ 36 (0, 0) hbx5
        have d3 := cell_of_row w5 _ 3 _ 36 (0, 0) hbx5
        have d4 := cell_of_row w5 _ 4 _ 36 (0, 0) hbx5
        have d5 := cell_of_row w5 _ 5 _ 36 (0, 0) hbx5
        have d6 := cell_of_row w5 _ 6 _ 36 (0, 0) hbx5
        clear hA5 hbx5 hB5
        go_wp2_with fail
        refine (same_c _ _ _ _ _ _ _ _ _ _ _ dt w5 HRA5.out HRD5.out).mono ?_
        rintro e' w9 ⟨rfl, hb9⟩
        have HBT9 := Lib.hid (HBT5.out.bel hb9)
        have HB9 := Lib.hid (HB5.out.trans (hb9.mono HBT5.out.rm.hb))
        have HX9 := Lib.hid ((hb9.block _ (lt_of_heap HX5.out)).trans HX5.out)
        clear hb9
        have hsn0 : (0 : Int) ≤ (sn : Int) := by omega
        have HT := Lib.hid (show _ ∧ _ from ⟨HBT9.out, HK4.out⟩)
        have HBW := Lib.hid HB9.out
        have HBOX := Lib.hid HX9.out
        clear a0 a1 a2 a3 a4 a5 a6 d0 d1 d2 d3 d4 d5 d6
        go_wp2_with fail
        refine (nxt_any HT.out.1.oq HT.out.2.i).mono ?_
        rintro e w6 ⟨rfl, hb6⟩
        have HT6 := Lib.hid (HT.out.1.bel hb6)
        have HB6 := Lib.hid (HBW.out.trans (hb6.mono HT.out.1.rm.hb))
        have HX6 := Lib.hid ((hb6.block _ (lt_of_heap HBOX.out)).trans HBOX.out)
        clear hb6
        go_wp2_with fail
        refine (rnxt HT6.out.rm HT.out.2).mono ?_
        rintro e w7 ⟨rfl, mm, hw7⟩
        have HT7 := Lib.hid (show BT w7 base g gr _ _ _ bN _ by rw [hw7]; exact HT6.out.bel (below_drewN _ _ _))
        have HB7 := Lib.hid (show Below base w w7 by rw [hw7]; exact HB6.out.trans (below_drewN _ _ _))
        have hx7 := (show w7.heap[w.heap.size]? = w6.heap[w.heap.size]? by rw [hw7]; rfl).trans HX6.out
        clear hw7
        have o1 := cell_of_row w7 _ 1 _ 49 (0, 0) hx7
        have c5 := HT7.out.rm.cells.c5
        rw [HT.out.2.out] at c5
        have hgr := HT7.out.rm.cells.lt
        have hkk := HT.out.2.i.ok
        have t0 := hkk.w0
        have t1 := hkk.t0
        have t2 : _ ≤ (1073741824 : Int) := Int.le_trans hkk.wt hkk.m1
        have HC14 := Lib.hid (fun n => quiet_sym (held_s (HT7.out.oq.drewN n) HT.out.2.i.ok))
        have HC13 := Lib.hid (fun n => quiet_sym (waiting_s (HT7.out.oq.drewN n)))
        have HC17 := Lib.hid (fun n => quiet_sym (taken_s (HT7.out.oq.drewN n)))
        have HC20 := Lib.hid (fun n => quiet_sym (count_any (HT7.out.oq.drewN n) HT.out.2.i.ok sn hsn))
        have hc29 := fun n => Calls.quiet_of (rwaiting (HT7.out.rm.drewN n) HT.out.2)
        rw [← HT.out.2.wai] at hc29
        have HC29 := Lib.hid hc29
        have hc30 := fun n => quiet_sym (rcount (HT7.out.rm.drewN n) HT.out.2 sn)
        rw [show (((fl ((rtake r pre e post xn)).L sn).length : Nat) : Int) = cntV (takeQ q e.st (toM e) ms xn) sn from by rw [HT.out.2.count sn]; unfold cntV; split <;> rfl] at hc30
        have HC30 := Lib.hid hc30
        clear hx7 hc29 hc30 hkk
        go_wp2_with fail
        go_quiet ((first
          | (go_at_call 14; exact HC14.out _)
          | (go_at_call 13; exact HC13.out _)
          | (go_at_call 17; exact HC17.out _)
          | (go_at_call 20; exact HC20.out _)
          | (go_at_call 29; exact HC29.out _)
          | (go_at_call 30; exact HC30.out _)))
        go_wp2
        go_ret
        exact ⟨rfl, below_dN HB7.out _, _, _, _, HT.out.2, (HT7.out.bel (below_drewN _ _ _)).unbox⟩
  by_cases k3 : kd = 3
  · subst k3
    have b1 : ((3 : Int) == 1) = false := rfl
    have b2 : ((3 : Int) == 2) = false := rfl
    clear o1 o2 o3 o4
    have HD := Lib.hid (H1.out.bel ((Below.refl _ w1).drew))
    have HBD := Lib.hid (HB1.out.drew)
    have HXD := Lib.hid (show w1.drew.heap[w.heap.size]? = _ from HBX.out)
    go_upto_region 11 with fail
    go_region_held3 (fun W => W.cell? ⟨w.heap.size, 5, none⟩ = some (.int .i64 x)) (first | exact o5 | exact q5 | exact p5) (first
      | (go_at_call 16; refine (free_q HD.out HK.out x).mono ?_; rintro e w2 ⟨rfl, hbt2, hb2, hx2⟩; have HBT2 := Lib.hid hbt2; have HB2 := Lib.hid (HBD.out.trans hb2); have hx22 := (hx2 _ rfl).trans HXD.out; have q5 := cell_of_row w2 _ 5 _ 49 (0, 0) hx22; have HX2 := Lib.hid hx22; clear hbt2 hb2 hx2 hx22; go_simp)
      | (go_at_call 27; refine (free_r HBT2.out HK.out HBT2.out.rm.hb).mono ?_; rintro e w3 ⟨rfl, hb3, hk3, hbt3, hx3⟩; have HBT3 := Lib.hid hbt3; have HK3 := Lib.hid hk3; have HB3 := Lib.hid (HB2.out.trans hb3); have hx33 := (hx3 _ rfl).trans HX2.out; have p5 := cell_of_row w3 _ 5 _ 49 (0, 0) hx33; have HX3 := Lib.hid hx33; clear hbt3 hb3 hx3 hk3 hx33; go_simp))
    have hsn0 : (0 : Int) ≤ (sn : Int) := by omega
    have HT := Lib.hid (show _ ∧ _ from ⟨HBT3.out, HK3.out⟩)
    have HBW := Lib.hid HB3.out
    have HBOX := Lib.hid HX3.out
    clear o0 o5 q5 p5
    go_wp2_with fail
    refine (nxt_any HT.out.1.oq HT.out.2.i).mono ?_
    rintro e w6 ⟨rfl, hb6⟩
    have HT6 := Lib.hid (HT.out.1.bel hb6)
    have HB6 := Lib.hid (HBW.out.trans (hb6.mono HT.out.1.rm.hb))
    have HX6 := Lib.hid ((hb6.block _ (lt_of_heap HBOX.out)).trans HBOX.out)
    clear hb6
    go_wp2_with fail
    refine (rnxt HT6.out.rm HT.out.2).mono ?_
    rintro e w7 ⟨rfl, mm, hw7⟩
    have HT7 := Lib.hid (show BT w7 base g gr _ _ _ bN _ by rw [hw7]; exact HT6.out.bel (below_drewN _ _ _))
    have HB7 := Lib.hid (show Below base w w7 by rw [hw7]; exact HB6.out.trans (below_drewN _ _ _))
    have hx7 := (show w7.heap[w.heap.size]? = w6.heap[w.heap.size]? by rw [hw7]; rfl).trans HX6.out
    clear hw7
    have o1 := cell_of_row w7 _ 1 _ 49 (0, 0) hx7
    have c5 := HT7.out.rm.cells.c5
    rw [HT.out.2.out] at c5
    have hgr := HT7.out.rm.cells.lt
    have hkk := HT.out.2.i.ok
    have t0 := hkk.w0
    have t1 := hkk.t0
    have t2 : _ ≤ (1073741824 : Int) := Int.le_trans hkk.wt hkk.m1
    have HC14 := Lib.hid (fun n => quiet_sym (held_s (HT7.out.oq.drewN n) HT.out.2.i.ok))
    have HC13 := Lib.hid (fun n => quiet_sym (waiting_s (HT7.out.oq.drewN n)))
    have HC17 := Lib.hid (fun n => quiet_sym (taken_s (HT7.out.oq.drewN n)))
    have HC20 := Lib.hid (fun n => quiet_sym (count_any (HT7.out.oq.drewN n) HT.out.2.i.ok sn hsn))
    have hc29 := fun n => Calls.quiet_of (rwaiting (HT7.out.rm.drewN n) HT.out.2)
    rw [← HT.out.2.wai] at hc29
    have HC29 := Lib.hid hc29
    have hc30 := fun n => quiet_sym (rcount (HT7.out.rm.drewN n) HT.out.2 sn)
    rw [show (((fl ((rfree q r x)).L sn).length : Nat) : Int) = cntV (freeR q x) sn from by rw [HT.out.2.count sn]; unfold cntV; split <;> rfl] at hc30
    have HC30 := Lib.hid hc30
    clear hx7 hc29 hc30 hkk
    go_wp2_with fail
    go_quiet ((first
      | (go_at_call 14; exact HC14.out _)
      | (go_at_call 13; exact HC13.out _)
      | (go_at_call 17; exact HC17.out _)
      | (go_at_call 20; exact HC20.out _)
      | (go_at_call 29; exact HC29.out _)
      | (go_at_call 30; exact HC30.out _)))
    go_wp2
    go_ret
    exact ⟨rfl, below_dN HB7.out _, _, _, _, HT.out.2, (HT7.out.bel (below_drewN _ _ _)).unbox⟩
  · have b1 : (kd == 1) = false := by simpa using k1
    have b2 : (kd == 2) = false := by simpa using k2
    have b3 : (kd == 3) = false := by simpa using k3
    clear k1 k2 k3
    have hsn0 : (0 : Int) ≤ (sn : Int) := by omega
    have HT := Lib.hid (show _ ∧ _ from ⟨H1.out, HK.out⟩)
    have HBW := Lib.hid HB1.out
    have HBOX := Lib.hid HBX.out
    clear o2 o3 o4 o5
    go_wp2_with fail
    refine (nxt_any HT.out.1.oq HT.out.2.i).mono ?_
    rintro e w6 ⟨rfl, hb6⟩
    have HT6 := Lib.hid (HT.out.1.bel hb6)
    have HB6 := Lib.hid (HBW.out.trans (hb6.mono HT.out.1.rm.hb))
    have HX6 := Lib.hid ((hb6.block _ (lt_of_heap HBOX.out)).trans HBOX.out)
    clear hb6
    go_wp2_with fail
    refine (rnxt HT6.out.rm HT.out.2).mono ?_
    rintro e w7 ⟨rfl, mm, hw7⟩
    have HT7 := Lib.hid (show BT w7 base g gr _ _ _ bN _ by rw [hw7]; exact HT6.out.bel (below_drewN _ _ _))
    have HB7 := Lib.hid (show Below base w w7 by rw [hw7]; exact HB6.out.trans (below_drewN _ _ _))
    have hx7 := (show w7.heap[w.heap.size]? = w6.heap[w.heap.size]? by rw [hw7]; rfl).trans HX6.out
    clear hw7
    have o1 := cell_of_row w7 _ 1 _ 49 (0, 0) hx7
    have c5 := HT7.out.rm.cells.c5
    rw [HT.out.2.out] at c5
    have hgr := HT7.out.rm.cells.lt
    have hkk := HT.out.2.i.ok
    have t0 := hkk.w0
    have t1 := hkk.t0
    have t2 : _ ≤ (1073741824 : Int) := Int.le_trans hkk.wt hkk.m1
    have HC14 := Lib.hid (fun n => quiet_sym (held_s (HT7.out.oq.drewN n) HT.out.2.i.ok))
    have HC13 := Lib.hid (fun n => quiet_sym (waiting_s (HT7.out.oq.drewN n)))
    have HC17 := Lib.hid (fun n => quiet_sym (taken_s (HT7.out.oq.drewN n)))
    have HC20 := Lib.hid (fun n => quiet_sym (count_any (HT7.out.oq.drewN n) HT.out.2.i.ok sn hsn))
    have hc29 := fun n => Calls.quiet_of (rwaiting (HT7.out.rm.drewN n) HT.out.2)
    rw [← HT.out.2.wai] at hc29
    have HC29 := Lib.hid hc29
    have hc30 := fun n => quiet_sym (rcount (HT7.out.rm.drewN n) HT.out.2 sn)
    rw [show (((fl (r).L sn).length : Nat) : Int) = cntV q sn from by rw [HT.out.2.count sn]; unfold cntV; split <;> rfl] at hc30
    have HC30 := Lib.hid hc30
    clear hx7 hc29 hc30 hkk
    go_wp2_with fail
    go_quiet ((first
      | (go_at_call 14; exact HC14.out _)
      | (go_at_call 13; exact HC13.out _)
      | (go_at_call 17; exact HC17.out _)
      | (go_at_call 20; exact HC20.out _)
      | (go_at_call 29; exact HC29.out _)
      | (go_at_call 30; exact HC30.out _)))
    go_wp2
    go_ret
    exact ⟨rfl, below_dN HB7.out _, _, _, _, HT.out.2, (HT7.out.bel (below_drewN _ _ _)).unbox⟩
