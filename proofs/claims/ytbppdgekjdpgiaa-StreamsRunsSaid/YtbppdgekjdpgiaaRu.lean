/- The law StreamsRuns: the walk. -/
import Derived.Test.YtbppdgekjdpgiaaSu
import Derived.Test.YtbppdgekjdpgiaaBo
namespace Go.Proofs.Ytbppdgekjdpgiaa.C
open Go.RowKit
set_option linter.unusedVariables false
set_option linter.unusedSimpArgs false
attribute [local go_sem high] max2_mx min2_mn max_two min_two
attribute [local go_sem ↓] Go.wp_at_zero Go.wp_at_succ

theorem RM.lower {w : World} {b0 base gr bN n : Nat} {lim : Int} (h : RM w b0 gr (newR n lim) (.slice none 0 0) bN) (hle : base ≤ b0) : RM w base gr (newR n lim) (.slice none 0 0) bN :=
  { h with l := ⟨rfl, .inl ⟨rfl, rfl⟩⟩, dd := (fun b hb => by obtain ⟨e, he, _⟩ := hb; cases he), lo := Nat.le_trans hle h.lo, lo2 := Nat.le_trans hle h.lo2, hb := Nat.le_trans hle h.hb }
theorem BT.new {w1 w2 : World} {base g gr bN n : Nat} {lim : Int} (hq : OQ w1 base g (newQ n lim) (· < base)) (hb : Below w1.heap.size w1 w2) (hr : RM w2 w1.heap.size gr (newR n lim) (.slice none 0 0) bN) : BT w2 base g gr (newQ n lim) (newR n lim) (.slice none 0 0) bN (fun _ => False) :=
  ⟨(hq.below hb).mono fun b hf => .inr (by
    rcases hf with hf | hf
    · exact (hr.lt b hf).1
    · exact hf.elim), hr.lower hq.1, fun b hx => hx.elim⟩
structure Rns (w wr : World) (g gr bN : Nat) (q : QS) (r : RS) (vL : Value) : Prop where
  t : BT wr w.heap.size g gr q r vL bN (fun _ => False)
  k : RR q r
  b : Below w.heap.size w wr
set_option maxHeartbeats 8000000 in
set_option maxRecDepth 100000 in
theorem walk_StreamsRuns (n lim : Int) (a : Option Addr) (len cap : Nat) (zs : List OpenStruct.E49) (w : World) (w0 : (Lit.int .i64 n).wf = true) (w1 : (Lit.int .i64 lim).wf = true) (hz : OpenStruct.Row49 w a len cap zs) :
    Calls Try.prog 7 #[.int .i64 n, .int .i64 lim, .slice a len cap] w fun e w' => e = .returned (.bool true) ∧ Below w.heap.size w w' := by
  clear w0 w1
  by_cases hbad : n < 1 ∨ 1024 < n ∨ lim < 1 ∨ 1073741824 < lim
  · clear hz
    have HN := Lib.hid (new_f n lim w hbad)
    have HN2 := Lib.hid (rnew_f n lim w hbad)
    clear hbad
    go_enter Try.func7, Try.ntmps7
    go_wp2_with fail
    refine (HN.out).mono ?_
    rintro e w1 ⟨rfl, rfl⟩
    go_wp2_with fail
    refine (HN2.out).mono ?_
    rintro e w1 ⟨rfl, rfl⟩
    go_wp2_with fail
    refine (awake_s _).mono ?_
    rintro e w1 ⟨rfl, hb1⟩
    go_wp2
    go_ret
    exact ⟨rfl, hb1⟩
  · obtain ⟨m, rfl⟩ : ∃ m : Nat, n = (m : Int) := ⟨n.toNat, by omega⟩
    obtain ⟨_, hlc, hlen, hnone, hsome, hat⟩ := hz
    have HNONE := Lib.hid hnone
    have HSOME := Lib.hid hsome
    have HAT := Lib.hid hat
    have m1 : 1 ≤ m := by omega
    have m2 : m ≤ 1024 := by omega
    have l1 : 1 ≤ lim := by omega
    have l2 : lim ≤ 1073741824 := by omega
    clear hbad hnone hsome hat
    go_enter Try.func7, Try.ntmps7
    go_wp2_with fail
    refine (new_s m lim w m1 m2 l1 l2).mono ?_
    rintro e w1 ⟨g, rfl, hoq, hb1⟩
    have HQ1 := Lib.hid hoq
    have HB1 := Lib.hid hb1
    clear hoq hb1
    go_wp2_with fail
    refine (rnew_s m lim w1 m1 m2 l1 l2).mono ?_
    rintro e w2 ⟨gr, bN, rfl, hrm, hb2⟩
    have HT2 := Lib.hid (BT.new HQ1.out hb2 hrm)
    have HB2 := Lib.hid (HB1.out.trans (hb2.mono HQ1.out.1))
    clear hrm hb2
    go_wp2_with fail
    refine (awake_s _).mono ?_
    rintro e w3 ⟨rfl, hb3⟩
    have HR3 := Lib.hid (show Rns w w3 g gr bN _ _ _ from ⟨HT2.out.bel hb3, RR.new m lim m1 m2 l1 l2, HB2.out.trans (hb3.mono HT2.out.rm.hb)⟩)
    clear hb3
    go_wp2
    go_loopw [11] (fun i wr => ∃ (k : Nat) (q : QS) (r : RS) (vL : Value), k ≤ len ∧ i = .int .i64 k ∧ Hid (Rns w wr g gr bN q r vL)) (fun i _ => len - (intOf i).toNat)
    case atStart => exact ⟨0, _, _, _, by omega, rfl, HR3⟩
    case round =>
      obtain ⟨k, q, r, vL, hk, rfl, HQ⟩ := hrel
      by_cases hlt : k < len
      · obtain ⟨ad, rfl⟩ := HSOME.out (by omega)
        obtain ⟨e0, e1, e2, e3, e4, e5, g0, g1, g2, g4, g5⟩ := HAT.out ad rfl k hlt
        generalize OpenStruct.E49.f0 (zs.getD k OpenStruct.d49) = kd at e0 g0
        generalize OpenStruct.E49.f1 (zs.getD k OpenStruct.d49) = st at e1 g1
        generalize OpenStruct.E49.f2 (zs.getD k OpenStruct.d49) = pr at e2 g2
        generalize OpenStruct.E49.f3 (zs.getD k OpenStruct.d49) = un at e3
        generalize (OpenStruct.E49.f4 (zs.getD k OpenStruct.d49)).1 = A at e4 g4
        generalize (OpenStruct.E49.f4 (zs.getD k OpenStruct.d49)).2.1 = dn at e4 g4
        generalize (OpenStruct.E49.f4 (zs.getD k OpenStruct.d49)).2.2.1 = dc at e4 g4
        generalize (OpenStruct.E49.f4 (zs.getD k OpenStruct.d49)).2.2.2 = ds at g4
        generalize OpenStruct.E49.f5 (zs.getD k OpenStruct.d49) = x at e5 g5
        obtain ⟨s0, s1⟩ := u16_range g1
        obtain ⟨sn, rfl⟩ : ∃ sn : Nat, st = (sn : Int) := ⟨st.toNat, by omega⟩
        have hsn : sn ≤ 65535 := by omega
        have hbr := HQ.out.b
        have e0' : wr.cell? (ad.add (k * 6)) = some (.int .i64 kd) := (hbr.cell (World.block_lt_of_cell? w _ e0)).trans e0
        have e1' : wr.cell? ⟨(ad.add (k * 6)).block, (ad.add (k * 6)).off + 1, none⟩ = some (.int .u16 sn) := (hbr.cell (World.block_lt_of_cell? w _ e1)).trans e1
        have e2' : wr.cell? ⟨(ad.add (k * 6)).block, (ad.add (k * 6)).off + 2, none⟩ = some (.int .u32 pr) := (hbr.cell (World.block_lt_of_cell? w _ e2)).trans e2
        have e3' : wr.cell? ⟨(ad.add (k * 6)).block, (ad.add (k * 6)).off + 3, none⟩ = some (.bool un) := (hbr.cell (World.block_lt_of_cell? w _ e3)).trans e3
        have e4' : wr.cell? ⟨(ad.add (k * 6)).block, (ad.add (k * 6)).off + 4, none⟩ = some (.slice A dn dc) := (hbr.cell (World.block_lt_of_cell? w _ e4)).trans e4
        have e5' : wr.cell? ⟨(ad.add (k * 6)).block, (ad.add (k * 6)).off + 5, none⟩ = some (.int .i64 x) := (hbr.cell (World.block_lt_of_cell? w _ e5)).trans e5
        have hk3' := World.block_lt_of_cell? wr _ e0'
        have hk3 : ad.block < wr.heap.size := by have := hk3'; rwa [block_add] at this
        have hj0 : (0 : Int) ≤ (k : Int) := by omega
        have hj1 : (k : Int) < (len : Int) := by omega
        have G4 := Lib.hid (show ∀ W, Below w.heap.size wr W → Rd .u8 W A dn ds from fun W hW => Rd.below g4.1 (hbr.trans hW))
        have G5 := Lib.hid (show A = none → dc = 0 from g4.2.2.2)
        clear g0 g1 g2 g4 g5 e0 e1 e2 e3 e4 e5 hbr
        go_wp2_with fail
        refine (step_c w.heap.size g gr bN q r vL kd sn pr un A dn dc ds x _ HQ.out.t HQ.out.k hsn G4.out G5.out).mono ?_
        rintro e w8 ⟨rfl, hb8, q', r', vL', hk8, ht8⟩
        have HT := Lib.hid (show Rns w w8 g gr bN q' r' vL' from ⟨ht8, hk8, HQ.out.b.trans hb8⟩)
        clear hb8 hk8 ht8
        go_wp2
        go_roundw
        case rel => exact ⟨k + 1, _, _, _, by omega, by go_num, HT⟩
        case measure => simp [intOf]; omega
      · have : k = len := by omega
        subst this
        clear HAT HSOME HNONE
        go_wp2
        go_ret
        exact ⟨rfl, HQ.out.b⟩
