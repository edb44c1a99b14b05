/- The law StreamsBounds: the walk. -/
import Derived.Test.YtbppdgekjdpgiaaAn
import Derived.Test.YtbppdgekjdpgiaaO
import Derived.Test.YtbppdgekjdpgiaaNb
namespace Go.Proofs.Ytbppdgekjdpgiaa.C
open Go.RowKit
set_option linter.unusedVariables false
set_option linter.unusedSimpArgs false
attribute [local go_sem high] max2_mx min2_mn max_two min_two
attribute [local go_sem ↓] Go.wp_at_zero Go.wp_at_succ

theorem OQ.drewN {w : World} {base g : Nat} {q : QS} {F : Nat → Prop} (h : OQ w base g q F) (n : Nat) : OQ (w.drewN n) base g q F := h.far (Nat.le_refl _) fun _ _ _ => rfl
theorem OQ.none {w w' : World} {base g : Nat} {q : QS} {F : Nat → Prop} (h : OQ w base g q F) (hb : Below w.heap.size w w') : OQ w' base g q (fun _ => False) := (h.below hb).mono fun b hb => hb.elim
/-- the queue of a round -/
structure Rnd (w wr : World) (g : Nat) (n : Nat) (lim : Int) (q : QS) : Prop where
  i : Inv q
  n : q.n = n
  lim : q.lim = lim
  oq : OQ wr w.heap.size g q (fun _ => False)
  b : Below w.heap.size w wr
theorem Rnd.stp {w wr w' : World} {g n : Nat} {lim : Int} {q q' : QS} (h : Rnd w wr g n lim q) (hi : Inv q' ∧ q'.n = q.n ∧ q'.lim = q.lim) (hs : Stp wr w' w.heap.size g q' (fun _ => False)) : Rnd w w' g n lim q' :=
  ⟨hi.1, hi.2.1.trans h.n, hi.2.2.trans h.lim, hs.oq.mono fun b hb => hb.elim, h.b.trans hs.below⟩
theorem Rnd.bel {w wr w' : World} {g n : Nat} {lim : Int} {q : QS} (h : Rnd w wr g n lim q) (hb : Below wr.heap.size wr w') : Rnd w w' g n lim q :=
  ⟨h.i, h.n, h.lim, h.oq.none hb, h.b.trans (hb.mono h.oq.1)⟩
theorem Rnd.nums {w wr : World} {g n : Nat} {lim : Int} {q : QS} (h : Rnd w wr g n lim q) : 0 ≤ q.wai ∧ 0 ≤ q.tak ∧ q.wai + q.tak ≤ lim ∧ lim ≤ 1073741824 := by
  have := h.i.ok
  have e := h.lim
  exact ⟨this.w0, this.t0, by rw [← e]; exact this.wt, by rw [← e]; exact this.m1⟩
theorem u16_range {n : Int} (h : (Lit.int .u16 n).wf = true) : 0 ≤ n ∧ n ≤ 65535 := by simpa [Lit.wf, IntKind.min, IntKind.max, IntKind.signed, IntKind.bits] using h
set_option maxHeartbeats 8000000 in
set_option maxRecDepth 100000 in
theorem walk_StreamsBounds (n lim : Int) (a : Option Addr) (len cap : Nat) (zs : List OpenStruct.E49) (w : World) (w0 : (Lit.int .i64 n).wf = true) (w1 : (Lit.int .i64 lim).wf = true) (hz : OpenStruct.Row49 w a len cap zs) :
    Calls Try.prog 6 #[.int .i64 n, .int .i64 lim, .slice a len cap] w fun e w' => e = .returned (.bool true) ∧ Below w.heap.size w w' := by
  clear w0 w1
  by_cases hbad : n < 1 ∨ 1024 < n ∨ lim < 1 ∨ 1073741824 < lim
  · clear hz
    have HN := Lib.hid (new_f n lim w hbad)
    clear hbad
    go_enter Try.func6, Try.ntmps6
    go_wp2_with fail
    refine (HN.out).mono ?_
    rintro e w1 ⟨rfl, rfl⟩
    go_wp2_with fail
    refine (awake_s _).mono ?_
    rintro e w1 ⟨rfl, hb1⟩
    go_wp2
    go_ret
    exact ⟨rfl, hb1⟩
  · obtain ⟨m, rfl⟩ : ∃ m : Nat, n = (m : Int) := ⟨n.toNat, by omega⟩
    obtain ⟨_, hlc, hlen, hnone, hsome, hat⟩ := hz
    have HNONE := Lib.hid hnone
    have HSOME := Lib.hid hsome
    have HAT := Lib.hid hat
    have m1 : 1 ≤ m := by omega
    have m2 : m ≤ 1024 := by omega
    have l1 : 1 ≤ lim := by omega
    have l2 : lim ≤ 1073741824 := by omega
    clear hbad hnone hsome hat
    go_enter Try.func6, Try.ntmps6
    go_wp2_with fail
    refine (new_s m lim w m1 m2 l1 l2).mono ?_
    rintro e w1 ⟨g, rfl, hoq, hb1⟩
    have HR := Lib.hid (show Rnd w w1 g m lim (newQ m lim) from ⟨Inv.new m lim m1 m2 l1 l2, rfl, rfl, hoq.mono fun b hb => hb.elim, hb1⟩)
    clear hoq hb1
    go_wp2_with fail
    refine (awake_s _).mono ?_
    rintro e w2 ⟨rfl, hb2⟩
    have HR2 := Lib.hid (HR.out.bel hb2)
    clear hb2
    go_wp2
    go_loopw [9] (fun i wr => ∃ (k : Nat) (q : QS), k ≤ len ∧ i = .int .i64 k ∧ Hid (Rnd w wr g m lim q)) (fun i _ => len - (intOf i).toNat)
    case atStart => exact ⟨0, _, by omega, rfl, HR2⟩
    case round =>
      obtain ⟨k, q, hk, rfl, HQ⟩ := hrel
      by_cases hlt : k < len
      · obtain ⟨ad, rfl⟩ := HSOME.out (by omega)
        obtain ⟨e0, e1, e2, e3, e4, e5, g0, g1, g2, g4, g5⟩ := HAT.out ad rfl k hlt
        generalize OpenStruct.E49.f0 (zs.getD k OpenStruct.d49) = kd at e0 g0
        generalize OpenStruct.E49.f1 (zs.getD k OpenStruct.d49) = st at e1 g1
        generalize OpenStruct.E49.f2 (zs.getD k OpenStruct.d49) = pr at e2 g2
        generalize OpenStruct.E49.f3 (zs.getD k OpenStruct.d49) = un at e3
        generalize (OpenStruct.E49.f4 (zs.getD k OpenStruct.d49)).1 = A at e4 g4
        generalize (OpenStruct.E49.f4 (zs.getD k OpenStruct.d49)).2.1 = dn at e4 g4
        generalize (OpenStruct.E49.f4 (zs.getD k OpenStruct.d49)).2.2.1 = dc at e4 g4
        generalize (OpenStruct.E49.f4 (zs.getD k OpenStruct.d49)).2.2.2 = ds at g4
        generalize OpenStruct.E49.f5 (zs.getD k OpenStruct.d49) = x at e5 g5
        obtain ⟨s0, s1⟩ := u16_range g1
        obtain ⟨sn, rfl⟩ : ∃ sn : Nat, st = (sn : Int) := ⟨st.toNat, by omega⟩
        have hsn : sn ≤ 65535 := by omega
        have hbr := HQ.out.b
        have e0' : wr.cell? (ad.add (k * 6)) = some (.int .i64 kd) := (hbr.cell (World.block_lt_of_cell? w _ e0)).trans e0
        have e1' : wr.cell? ⟨(ad.add (k * 6)).block, (ad.add (k * 6)).off + 1, none⟩ = some (.int .u16 sn) := (hbr.cell (World.block_lt_of_cell? w _ e1)).trans e1
        have e2' : wr.cell? ⟨(ad.add (k * 6)).block, (ad.add (k * 6)).off + 2, none⟩ = some (.int .u32 pr) := (hbr.cell (World.block_lt_of_cell? w _ e2)).trans e2
        have e3' : wr.cell? ⟨(ad.add (k * 6)).block, (ad.add (k * 6)).off + 3, none⟩ = some (.bool un) := (hbr.cell (World.block_lt_of_cell? w _ e3)).trans e3
        have e4' : wr.cell? ⟨(ad.add (k * 6)).block, (ad.add (k * 6)).off + 4, none⟩ = some (.slice A dn dc) := (hbr.cell (World.block_lt_of_cell? w _ e4)).trans e4
        have e5' : wr.cell? ⟨(ad.add (k * 6)).block, (ad.add (k * 6)).off + 5, none⟩ = some (.int .i64 x) := (hbr.cell (World.block_lt_of_cell? w _ e5)).trans e5
        have hk3' := World.block_lt_of_cell? wr _ e0'
        have hk3 : ad.block < wr.heap.size := by have := hk3'; rwa [block_add] at this
        have hj0 : (0 : Int) ≤ (k : Int) := by omega
        have hj1 : (k : Int) < (len : Int) := by omega
        obtain ⟨n0, n1, n2, n3⟩ := HQ.out.nums
        have G4 := Lib.hid (show Rd .u8 wr A dn ds from Rd.below g4.1 hbr)
        have E4 := Lib.hid (show w.cell? ⟨(ad.add (k * 6)).block, (ad.add (k * 6)).off + 4, none⟩ = some (.slice A dn dc) from e4)
        clear g0 g1 g2 g4 g5 e0 e1 e2 e3 e4 e5 hbr
        go_wp2_with fail
        refine (held_s HQ.out.oq HQ.out.i.ok).mono ?_
        rintro e w8 ⟨rfl, rfl⟩
        go_wp2_with fail
        refine (waiting_s HQ.out.oq).mono ?_
        rintro e w8 ⟨rfl, rfl⟩
        go_wp2_with fail
        refine (nxt_any HQ.out.oq HQ.out.i).mono ?_
        rintro e w3 ⟨rfl, hb3⟩
        have HQ3 := Lib.hid (HQ.out.bel hb3)
        have G43 := Lib.hid (Rd.below G4.out hb3)
        obtain ⟨hc, hf⟩ := bcell hb3
        have hz3 := hb3.size
        have hk4 : ad.block < w3.heap.size := by omega
        have e0 : w3.cell? (ad.add (k * 6)) = some (.int .i64 kd) := (hb3.cell hk3').trans e0'
        have e1 : w3.cell? ⟨(ad.add (k * 6)).block, (ad.add (k * 6)).off + 1, none⟩ = some (.int .u16 sn) := (hb3.cell (p := ⟨(ad.add (k * 6)).block, _, none⟩) hk3').trans e1'
        have e2 : w3.cell? ⟨(ad.add (k * 6)).block, (ad.add (k * 6)).off + 2, none⟩ = some (.int .u32 pr) := (hb3.cell (p := ⟨(ad.add (k * 6)).block, _, none⟩) hk3').trans e2'
        have e3 : w3.cell? ⟨(ad.add (k * 6)).block, (ad.add (k * 6)).off + 3, none⟩ = some (.bool un) := (hb3.cell (p := ⟨(ad.add (k * 6)).block, _, none⟩) hk3').trans e3'
        have e4 : w3.cell? ⟨(ad.add (k * 6)).block, (ad.add (k * 6)).off + 4, none⟩ = some (.slice A dn dc) := (hb3.cell (p := ⟨(ad.add (k * 6)).block, _, none⟩) hk3').trans e4'
        have e5 : w3.cell? ⟨(ad.add (k * 6)).block, (ad.add (k * 6)).off + 5, none⟩ = some (.int .i64 x) := (hb3.cell (p := ⟨(ad.add (k * 6)).block, _, none⟩) hk3').trans e5'
        clear e0' e1' e2' e3' e4' e5' hb3 hc hf
        by_cases k1 : kd = 1
        · subst k1
          go_wp2_with fail
          go_still_tail 21, (by kernel_rfl)
          change wpList _ _ _ _ _ w3.drew
          go_wp2_with fail
          have HD := Lib.hid (HQ3.out.bel (Below.refl _ _).drew)
          obtain ⟨E, hE⟩ : ∃ E, E = pushE q sn dn := ⟨_, rfl⟩
          have hpa := push_any HD.out.oq HD.out.i sn dn dc pr un A ds (Rd.below G43.out (Below.refl _ _).drew) hsn
          rw [← hE] at hpa
          refine hpa.mono ?_
          clear hpa
          rintro e w5 ⟨rfl, hst⟩
          have HP := Lib.hid (HD.out.stp (HD.out.i.pushR sn pr un ds) hst)
          clear hst
          by_cases hE0 : E = 0
          · subst hE0
            have hdl : ds.length = dn := G4.out.1
            have hq : pushR q sn pr un ds = pushQ q sn pr un ds := by unfold pushR; rw [hdl, ← hE, if_pos rfl]
            have HP2 := Lib.hid (show Rnd w w5 g m lim (pushQ q sn pr un ds) by rw [← hq]; exact HP.out)
            have hwn : (pushQ q sn pr un ds).wai + (pushQ q sn pr un ds).tak = q.wai + dn + q.tak := by unfold pushQ; simp only [hdl]
            have HH := Lib.hid (fun n => held_s (HP2.out.oq.drewN n) HP2.out.i.ok)
            rw [hwn] at HH
            have e4 : w5.cell? ⟨(ad.add (k * 6)).block, (ad.add (k * 6)).off + 4, none⟩ = some (.slice A dn dc) := (HP2.out.b.cell (World.block_lt_of_cell? w _ E4.out)).trans E4.out
            have hdn := (pushE_0 hE.symm).2.2.1
            have hsub : IntKind.i64.wrap (q.wai + dn + q.tak - (q.wai + q.tak)) = dn := by rw [IntKind.wrap_i64]; omega
            have HE := Lib.hid hE
            clear hE hq hwn hdl e0 e1 e2 e3 e5
            go_wp2_with fail
            go_quiet ((go_at_call 14; exact quiet_sym (HH.out _)))
            clear hsub
            refine name_exit ?_
            intro w6 hw6
            have HR5 := Lib.hid (show Rnd w w6 g m lim (pushQ q sn pr un ds) by rw [hw6]; exact HP2.out.bel (below_drewN _ w5 _))
            clear hw6 e4
            have HT := Lib.hid HR5.out
            obtain ⟨t0, t1, t2, t3⟩ := HT.out.nums
            go_wp2_with fail
            refine (held_s HT.out.oq HT.out.i.ok).mono ?_
            rintro e w8 ⟨rfl, rfl⟩
            go_wp2_with fail
            refine (held_s HT.out.oq HT.out.i.ok).mono ?_
            rintro e w8 ⟨rfl, rfl⟩
            go_wp2_with fail
            refine (held_s HT.out.oq HT.out.i.ok).mono ?_
            rintro e w8 ⟨rfl, rfl⟩
            go_wp2_with fail
            refine (waiting_s HT.out.oq).mono ?_
            rintro e w8 ⟨rfl, rfl⟩
            go_wp2_with fail
            refine (taken_s HT.out.oq).mono ?_
            rintro e w8 ⟨rfl, rfl⟩
            go_wp2
            go_roundw
            case rel => exact ⟨k + 1, pushQ q sn pr un ds, by omega, by go_num, HT⟩
            case measure => simp [intOf]; omega
          · have hq : pushR q sn pr un ds = q := by unfold pushR; rw [show ds.length = dn from G4.out.1, ← hE, if_neg hE0]
            have HP2 := Lib.hid (show Rnd w w5 g m lim q by rw [← hq]; exact HP.out)
            have b0 : (E == 0) = false := by simpa using hE0
            have b1 : (E != 0) = true := by simpa using hE0
            have HE := Lib.hid hE
            clear hE hE0 hq e0 e1 e2 e3 e4 e5
            go_wp2_with fail
            refine (nxt_any HP2.out.oq HP2.out.i).mono ?_
            rintro e w6 ⟨rfl, hb6⟩
            have HP6 := Lib.hid (HP2.out.bel hb6)
            clear hb6
            go_wp2_with fail
            refine (held_s HP6.out.oq HP6.out.i.ok).mono ?_
            rintro e w8 ⟨rfl, rfl⟩
            go_wp2_with fail
            refine (waiting_s HP6.out.oq).mono ?_
            rintro e w8 ⟨rfl, rfl⟩
            have HT := Lib.hid HP6.out
            obtain ⟨t0, t1, t2, t3⟩ := HT.out.nums
            go_wp2_with fail
            refine (held_s HT.out.oq HT.out.i.ok).mono ?_
            rintro e w8 ⟨rfl, rfl⟩
            go_wp2_with fail
            refine (held_s HT.out.oq HT.out.i.ok).mono ?_
            rintro e w8 ⟨rfl, rfl⟩
            go_wp2_with fail
            refine (held_s HT.out.oq HT.out.i.ok).mono ?_
            rintro e w8 ⟨rfl, rfl⟩
            go_wp2_with fail
            refine (waiting_s HT.out.oq).mono ?_
            rintro e w8 ⟨rfl, rfl⟩
            go_wp2_with fail
            refine (taken_s HT.out.oq).mono ?_
            rintro e w8 ⟨rfl, rfl⟩
            go_wp2
            go_roundw
            case rel => exact ⟨k + 1, q, by omega, by go_num, HT⟩
            case measure => simp [intOf]; omega
        by_cases k2 : kd = 2
        · subst k2
          go_wp2_with fail
          refine (take_any HQ3.out.oq HQ3.out.i x).mono ?_
          rintro e w5 ⟨⟨v, rfl⟩, hst⟩
          have HP := Lib.hid (HQ3.out.stp (HQ3.out.i.takeR x) hst)
          clear hst e0 e1 e2 e3 e4 e5 k1
          have HT := Lib.hid HP.out
          obtain ⟨t0, t1, t2, t3⟩ := HT.out.nums
          go_wp2_with fail
          refine (held_s HT.out.oq HT.out.i.ok).mono ?_
          rintro e w8 ⟨rfl, rfl⟩
          go_wp2_with fail
          refine (held_s HT.out.oq HT.out.i.ok).mono ?_
          rintro e w8 ⟨rfl, rfl⟩
          go_wp2_with fail
          refine (held_s HT.out.oq HT.out.i.ok).mono ?_
          rintro e w8 ⟨rfl, rfl⟩
          go_wp2_with fail
          refine (waiting_s HT.out.oq).mono ?_
          rintro e w8 ⟨rfl, rfl⟩
          go_wp2_with fail
          refine (taken_s HT.out.oq).mono ?_
          rintro e w8 ⟨rfl, rfl⟩
          go_wp2
          go_roundw
          case rel => exact ⟨k + 1, takeR q x, by omega, by go_num, HT⟩
          case measure => simp [intOf]; omega
        by_cases k3 : kd = 3
        · subst k3
          go_wp2_with fail
          refine (free_any HQ3.out.oq HQ3.out.i x).mono ?_
          rintro e w5 ⟨rfl, hst⟩
          have HP := Lib.hid (HQ3.out.stp (HQ3.out.i.freeR x) hst)
          clear hst e0 e1 e2 e3 e4 e5 k1 k2
          have HT := Lib.hid HP.out
          obtain ⟨t0, t1, t2, t3⟩ := HT.out.nums
          go_wp2_with fail
          refine (held_s HT.out.oq HT.out.i.ok).mono ?_
          rintro e w8 ⟨rfl, rfl⟩
          go_wp2_with fail
          refine (held_s HT.out.oq HT.out.i.ok).mono ?_
          rintro e w8 ⟨rfl, rfl⟩
          go_wp2_with fail
          refine (held_s HT.out.oq HT.out.i.ok).mono ?_
          rintro e w8 ⟨rfl, rfl⟩
          go_wp2_with fail
          refine (waiting_s HT.out.oq).mono ?_
          rintro e w8 ⟨rfl, rfl⟩
          go_wp2_with fail
          refine (taken_s HT.out.oq).mono ?_
          rintro e w8 ⟨rfl, rfl⟩
          go_wp2
          go_roundw
          case rel => exact ⟨k + 1, freeR q x, by omega, by go_num, HT⟩
          case measure => simp [intOf]; omega
        · have b1 : (kd == 1) = false := by simpa using k1
          have b2 : (kd == 2) = false := by simpa using k2
          have b3 : (kd == 3) = false := by simpa using k3
          clear k1 k2 k3
          have HT := Lib.hid HQ3.out
          obtain ⟨t0, t1, t2, t3⟩ := HT.out.nums
          go_wp2_with fail
          refine (held_s HT.out.oq HT.out.i.ok).mono ?_
          rintro e w8 ⟨rfl, rfl⟩
          go_wp2_with fail
          refine (held_s HT.out.oq HT.out.i.ok).mono ?_
          rintro e w8 ⟨rfl, rfl⟩
          go_wp2_with fail
          refine (held_s HT.out.oq HT.out.i.ok).mono ?_
          rintro e w8 ⟨rfl, rfl⟩
          go_wp2_with fail
          refine (waiting_s HT.out.oq).mono ?_
          rintro e w8 ⟨rfl, rfl⟩
          go_wp2_with fail
          refine (taken_s HT.out.oq).mono ?_
          rintro e w8 ⟨rfl, rfl⟩
          go_wp2
          go_roundw
          case rel => exact ⟨k + 1, q, by omega, by go_num, HT⟩
          case measure => simp [intOf]; omega
      · go_wp2
        go_ret
        exact ⟨rfl, HQ.out.b⟩
