/- The law StreamsFair: the walk. -/
import Derived.Test.YtbppdgekjdpgiaaFm
namespace Go.Proofs.Ytbppdgekjdpgiaa.C
open Go.RowKit
set_option linter.unusedVariables false
set_option linter.unusedSimpArgs false
attribute [local go_sem high] max2_mx min2_mn max_two min_two
attribute [local go_sem ↓] Go.wp_at_zero Go.wp_at_succ

theorem info3 : (Try.prog.info? 3).map (fun i => (i.zero, i.size, i.bytes)) = some (some (.int .i64 0), 1, 8) := by kernel_rfl
theorem info4 : (Try.prog.info? 4).map (fun i => (i.zero, i.size, i.bytes)) = some (some (.bool false), 1, 1) := by kernel_rfl
theorem info42 : (Try.prog.info? 42).map (fun i => (i.zero, i.size, i.bytes)) = some (some (.slice none 0 0), 1, 24) := by kernel_rfl
theorem u8_range {n : Int} (h : (Lit.int .u8 n).wf = true) : 0 ≤ n ∧ n ≤ 255 := by simpa [Lit.wf, IntKind.min, IntKind.max, IntKind.signed, IntKind.bits] using h
theorem take_no_f {w : World} {base g : Nat} {q : QS} {F : Nat → Prop} (h : OQ w base g q F) (k : Ok q) (x : Int) (hn : x < 1 ∨ nextF q < 0) :
    Calls Try.prog 12 #[.pointer (some ⟨g, 0, none⟩), .int .i64 x] w fun e w' => e = .returned (.tuple #[.agg #[.int .u16 0, .int .u16 0, .int .u32 0, .bool false, .slice none 0 0, .bool false, .bool false], .bool false]) ∧ Below w.heap.size w w' := take_no h k x hn
/-- how many bytes wait, as the world tells -/
def wq (wr : World) (g : Nat) : Nat := match wr.cell? ⟨g, 3, none⟩ with
  | some v => (intOf v).toNat
  | none => 0
theorem wq_of {wr : World} {base g : Nat} {q : QS} {F : Nat → Prop} (h : OQ wr base g q F) : wq wr g = q.wai.toNat := by
  obtain ⟨_, L, h1, _⟩ := h
  unfold wq
  rw [h1.cells.c3]
  rfl
theorem takeQ_wai1 (q : QS) (s : Nat) (m : Msg) (ms : List Msg) (x : Nat) (h0 : 1 ≤ x) (h1 : 0 < m.data.length) : (takeQ q s m ms x).wai ≤ q.wai - 1 := by
  unfold takeQ
  split
  · simp only; omega
  · simp only; omega
/-- while messages are pushed: few are there -/
structure P1 (w wr : World) (g bL : Nat) (q : QS) (left : Nat → Nat) (k : Int) : Prop where
  t : q.tak = 0
  m : q.lim = 1073741824
  k : q.wai ≤ k
  f : FI q left (fun _ => none)
  x : FM1 w wr g bL q left
theorem P1.bel {w wr w' : World} {g bL : Nat} {q : QS} {left : Nat → Nat} {k : Int} (h : P1 w wr g bL q left k) (hb : Below wr.heap.size wr w') : P1 w w' g bL q left k := ⟨h.t, h.m, h.k, h.f, h.x.bel hb⟩
theorem P1.pushE {w wr : World} {g bL : Nat} {q : QS} {left : Nat → Nat} {k : Int} (h : P1 w wr g bL q left k) (s : Nat) (hs : s < 8) (hk : k ≤ 1000) : C.pushE q s 3 = 0 := by
  have := h.t
  have := h.m
  have := h.k
  have := h.f.n
  unfold C.pushE
  rw [if_neg (by omega), if_neg (by omega), if_neg (by omega)]
/-- a push -/
theorem P1.push {w wr : World} {g bL : Nat} {q : QS} {left : Nat → Nat} {k : Int} (h : P1 w wr g bL q left k) (s : Nat) (hs : s < 8) (hk : k ≤ 1000) (A : Option Addr) (c : Nat) (hr : Rd .u8 wr A 3 [1, 2, 3]) :
    Calls Try.prog 11 #[.pointer (some ⟨g, 0, none⟩), .int .u16 s, .int .u32 1, .bool false, .slice A 3 c] wr fun e w' => e = .returned (.int .i64 0) ∧ FM1 w w' g bL (pushQ q s 1 false [1, 2, 3]) left := by
  have e := h.pushE s hs hk
  have h1 := push_any h.x.oq h.f.i s 3 c 1 false A [1, 2, 3] hr (by omega)
  unfold pushR at h1
  rw [show ([1, 2, 3] : List Int).length = 3 from rfl, e, if_pos rfl] at h1
  refine h1.mono ?_
  rintro e w' ⟨rfl, hst⟩
  exact ⟨rfl, h.x.stp hst⟩
theorem P1.inc {w wr w' : World} {g bL : Nat} {q : QS} {left : Nat → Nat} {k : Int} (h : P1 w wr g bL q left k) (s : Nat) (hs : s < 8) (hk : k ≤ 1000) (hx : FM1 w w' g bL (pushQ q s 1 false [1, 2, 3]) left) :
    P1 w (w'.setCell ⟨bL, s, none⟩ (.int .i64 ((left s : Int) + 1))) g bL (pushQ q s 1 false [1, 2, 3]) (upd left s (left s + 1)) (k + 3) :=
  ⟨h.t, h.m, by have := h.k; show q.wai + 3 ≤ k + 3; omega, h.f.push s 1 false [1, 2, 3] (h.pushE s hs hk), hx.set s (left s + 1)⟩
theorem unb_len (ms : List Msg) : unb ms ≤ ms.length := List.countP_le_length
theorem FI.left_le {q : QS} {left : Nat → Nat} {since : Nat → Option (Nat → Bool)} (h : FI q left since) (s : Nat) (hs : s < 8) : left s ≤ 1073741824 := by
  rw [h.lft s hs]
  exact Nat.le_trans (unb_len _) (h.i.len s (by rw [h.n]; exact hs))
theorem FI.congr {q : QS} {left : Nat → Nat} {since since' : Nat → Option (Nat → Bool)} (h : FI q left since) (e : ∀ t, t < 8 → since' t = since t) : FI q left since' :=
  ⟨h.i, h.n, h.lft, fun s hs f hf => h.ord s hs f (by rw [← e s hs]; exact hf)⟩
/-- the first o rows are marked -/
def sinceK (since : Nat → Option (Nat → Bool)) (s o : Nat) : Nat → Option (Nat → Bool) := fun t => if t < o then sinceA since s t else since t
theorem sinceK_0 (since : Nat → Option (Nat → Bool)) (s : Nat) : sinceK since s 0 = since := by funext t; unfold sinceK; rw [if_neg (by omega)]
theorem sinceK_at (since : Nat → Option (Nat → Bool)) (s o : Nat) : sinceK since s o o = since o := by unfold sinceK; rw [if_neg (by omega)]
theorem sinceK_none (since : Nat → Option (Nat → Bool)) (s o : Nat) (h : since o = none) : sinceK since s (o + 1) = sinceK since s o := by
  funext t
  unfold sinceK
  by_cases e : t = o
  · subst e; rw [if_pos (by omega), if_neg (by omega), h]; unfold sinceA; rw [h]; rfl
  · by_cases e2 : t < o
    · rw [if_pos (by omega), if_pos e2]
    · rw [if_neg (by omega), if_neg e2]
theorem sinceK_some (since : Nat → Option (Nat → Bool)) (s o : Nat) (f : Nat → Bool) (h : since o = some f) : upd (sinceK since s o) o (some (upd f s true)) = sinceK since s (o + 1) := by
  funext t
  unfold sinceK
  by_cases e : t = o
  · subst e; rw [upd_same, if_pos (by omega)]; unfold sinceA; rw [h]; rfl
  · rw [upd_ne _ _ _ _ e]
    by_cases e2 : t < o
    · rw [if_pos e2, if_pos (by omega)]
    · rw [if_neg e2, if_neg (by omega)]
set_option maxHeartbeats 8000000 in
set_option maxRecDepth 100000 in
theorem walk_StreamsFair (A : Option Addr) (n c : Nat) (cs : List Int) (sz : Int) (w : World) (hc : Rd .u8 w A n cs ∧ (∀ y ∈ cs, (Lit.int .u8 y).wf = true) ∧ n ≤ c ∧ (A = none → c = 0)) (hy : n * 1 ≤ 140737488351232) (hsz : (Lit.int .u8 sz).wf = true) :
    Calls Try.prog 4 #[.slice A n c, .int .u8 sz] w fun e w' => e = .returned (.bool true) ∧ Below w.heap.size w w' := by
  obtain ⟨hr, hwf, hnc, _⟩ := hc
  obtain ⟨z0, z1⟩ := u8_range hsz
  have HR := Lib.hid hr
  have HWF := Lib.hid hwf
  have hmk23 : ∀ w : World, (Instr.makeSlice 23 (.int .i64 8) (.int .i64 8)).run Try.prog w = .ok (.slice (some ⟨w.heap.size, 0, none⟩) 8 8) (w.alloc (.cells (madeCells #[.int .i64 0] 8) 3)) := run_make_row' (P := Try.prog) 23 3 (.int .i64 0) 8 Try.underlying23 info3 rfl .i64 .i64 8 (by omega) (by omega)
  have hmk41 : ∀ w : World, (Instr.makeSlice 41 (.int .i64 8) (.int .i64 8)).run Try.prog w = .ok (.slice (some ⟨w.heap.size, 0, none⟩) 8 8) (w.alloc (.cells (madeCells #[.slice none 0 0] 8) 42)) := run_make_row' (P := Try.prog) 41 42 (.slice none 0 0) 24 Try.underlying41 info42 rfl .i64 .i64 8 (by omega) (by omega)
  have hmk42 : ∀ w : World, (Instr.makeSlice 42 (.int .i64 8) (.int .i64 8)).run Try.prog w = .ok (.slice (some ⟨w.heap.size, 0, none⟩) 8 8) (w.alloc (.cells (madeCells #[.bool false] 8) 4)) := run_make_row' (P := Try.prog) 42 4 (.bool false) 1 Try.underlying42 info4 rfl .i64 .i64 8 (by omega) (by omega)
  clear hr hwf hsz hy
  go_enter Try.func4, Try.ntmps4
  go_wp2_with fail
  refine (new_s 8 1073741824 w (by omega) (by omega) (by omega) (by omega)).mono ?_
  rintro e w1 ⟨g, rfl, hoq, hb1⟩
  have H1 := Lib.hid (show OQ w1 w.heap.size g (newQ 8 1073741824) (fun _ => False) from hoq.mono fun b hb => hb.elim)
  have HB1 := Lib.hid hb1
  clear hoq hb1
  go_wp2_with fail
  refine (awake_s _).mono ?_
  rintro e w2 ⟨rfl, hb2⟩
  have HB2 := Lib.hid (show Below w.heap.size w w2 from HB1.out.trans (hb2.mono HB1.out.size))
  have H2 := Lib.hid (H1.out.none hb2)
  clear hb2
  go_wp2
  refine name_world ?_
  intro w3 hw3
  have h3 : P1 w w3 g w2.heap.size (newQ 8 1073741824) (fun _ => 0) 0 := by
    rw [hw3]
    have hal : Below w2.heap.size w2 (w2.alloc (.cells (madeCells #[.int .i64 0] 8) 3)) := (Below.refl _ _).alloc (Nat.le_refl _) _
    exact ⟨rfl, rfl, by simp [newQ], FI.new, (H2.out.below hal).mono fun b hb => .inr (Nat.le_of_eq hb.symm), HB2.out.trans (hal.mono HB2.out.size), ⟨_, heap_alloc_new _ _, made_size _ _, fun t ht => made_get _ _ _ ht⟩, HB2.out.size⟩
  obtain ⟨bL, hbL⟩ : ∃ bL, bL = w2.heap.size := ⟨_, rfl⟩
  rw [← hbL] at h3 ⊢
  have H3 := Lib.hid h3
  clear hw3 h3 hbL
  go_loopw [8] (fun i wr => ∃ (s : Nat) (q : QS) (left : Nat → Nat), s ≤ 8 ∧ i = .int .i64 s ∧ Hid (P1 w wr g bL q left (60 * s))) (fun i _ => 8 - (intOf i).toNat)
  case atStart => exact ⟨0, _, _, by omega, rfl, H3⟩
  case round =>
    obtain ⟨s, q, left, hs, rfl, HQ⟩ := hrel
    go_upto_region 6 with fail
    go_cut [39] (fun s39 wx => ∃ b : Bool, s39 = .bool b ∧ Hid (b = true → (s < 8 ∧ s < n)) ∧ wr = wx)
    case first =>
      by_cases h1 : s < 8
      · by_cases h2 : s < n
        · go_wp2
          go_meet
          exact ⟨_, rfl, Lib.hid (by first | (simp; done) | (simp; omega)), rfl⟩
        · go_wp2
          go_meet
          exact ⟨_, rfl, Lib.hid (by first | (simp; done) | (simp; omega)), rfl⟩
      · go_wp2
        go_meet
        exact ⟨_, rfl, Lib.hid (by first | (simp; done) | (simp; omega)), rfl⟩
    case rest =>
    obtain ⟨bb, rfl, HBB, rfl⟩ := hcut
    cases bb with
    | true =>
      obtain ⟨h8, hn⟩ := HBB.out rfl
      clear HBB
      obtain ⟨ad, rfl, hcell⟩ := HR.out.2.2 (by omega)
      obtain ⟨y0, y1⟩ : 0 ≤ rdI cs s ∧ rdI cs s ≤ 255 := u8_range (rdI_mem cs (fun y => (Lit.int .u8 y).wf = true) (by decide) HWF.out s)
      have hcs := hcell s hn
      generalize rdI cs s = y at hcs y0 y1
      have HCS := Lib.hid hcs
      have hs0 : (0 : Int) ≤ (s : Int) := by omega
      have hs1 : (s : Int) < (n : Int) := by omega
      have hwu : IntKind.u16.wrap (s : Int) = (s : Int) := by rw [IntKind.wrap_u16]; omega
      clear hcell hcs
      go_wp2
      go_loopw [9] (fun i wr => ∃ (j : Nat) (q : QS) (left : Nat → Nat), j ≤ 20 ∧ (j = 0 ∨ (j : Int) ≤ y % 20) ∧ i = .int .i64 j ∧ Hid (P1 w wr g bL q left (60 * s + 3 * j))) (fun i _ => 20 - (intOf i).toNat)
      case atStart => exact ⟨0, q, left, by omega, .inl rfl, rfl, by simpa using HQ⟩
      case round =>
        clear HQ
        obtain ⟨j, q, left, hj, hjy, rfl, HQ⟩ := hrel
        have a1 : wr.cell? (ad.add s) = some (.int .u8 y) := (HQ.out.x.b.cell (World.block_lt_of_cell? w _ HCS.out)).trans HCS.out
        by_cases hlt : (j : Int) < y % 20
        · have hb := HQ.out.x.oq
          go_wp2_with fail
          refine (HQ.out.bel ((Below.refl _ _).alloc (Nat.le_refl _) _) |>.push s h8 (by omega) _ 3 (Rd_new wr .u8 5 [1, 2, 3] (by decide))).mono ?_
          rintro e w5 ⟨rfl, hx⟩
          have hll := HQ.out.f.left_le s h8
          obtain ⟨arr, r1, r2, r3⟩ := hx.l
          have b1 : w5.cell? ⟨bL, s, none⟩ = some (.int .i64 (left s)) := by rw [cell_of_row w5 bL s arr 3 (0, 0) r1]; exact r3 s h8
          have bf : w5.frozen? ⟨bL, s, none⟩ = false := frozen_of_row w5 bL s arr 3 r1
          have hs8 : (s : Int) < 8 := by omega
          have HX := Lib.hid hx
          clear hx r1 r2 r3 hb a1
          go_wp2
          go_roundw
          case rel => exact ⟨j + 1, _, _, by omega, .inr (by omega), by go_num, Lib.hid (by have h := HQ.out.inc s h8 (by omega) HX.out; rw [show (60 * (s : Int) + 3 * ((j + 1 : Nat) : Int)) = 60 * s + 3 * j + 3 from by omega]; exact h)⟩
          case measure => (simp [intOf]; omega)
        · have hj60 : 60 * (s : Int) + 3 * j ≤ 60 * ((s + 1 : Nat) : Int) := by omega
          have HJ := Lib.hid hj60
          clear hj60
          go_wp2
          go_roundw
          case rel => exact ⟨s + 1, q, left, by omega, by go_num, Lib.hid ⟨HQ.out.t, HQ.out.m, Int.le_trans HQ.out.k HJ.out, HQ.out.f, HQ.out.x⟩⟩
          case measure => (simp [intOf]; omega)
    | false =>
      clear HBB
      go_wp2
      refine name_world ?_
      intro w4 hw4
      obtain ⟨bS, hbS⟩ : ∃ bS, bS = wr.heap.size := ⟨_, rfl⟩
      have h4 : FI q left (fun _ => none) ∧ FM w w4 g bL bS q left (fun _ => none) (fun _ => 0) := by
        rw [hw4, hbS]
        exact ⟨HQ.out.f, HQ.out.x.made _⟩
      rw [← hbS]
      have H4 := Lib.hid h4
      clear hw4 h4 hbS HQ hmk23 hmk41
      go_loopw [12] (fun _ wr => ∃ (q : QS) (left : Nat → Nat) (since : Nat → Option (Nat → Bool)) (rb : Nat → Nat), Hid (FI q left since ∧ FM w wr g bL bS q left since rb)) (fun _ wr => wq wr g)
      case atStart => exact ⟨q, left, _, _, H4⟩
      case round =>
        clear H4
        obtain ⟨q, left, since, rb, HQ⟩ := hrel
        obtain ⟨x, hx⟩ : ∃ x : Nat, 1 + sz % 4 = (x : Int) := ⟨(1 + sz % 4).toNat, by omega⟩
        have hx1 : 1 ≤ x := by omega
        have HX := Lib.hid hx
        clear hx
        rcases next_cases HQ.out.1.i with ⟨h1, _⟩ | ⟨s, m, ms, h1, h2, h3, h4⟩
        · have HN := Lib.hid (show nextF q < 0 by omega)
          have HZ := Lib.hid (HQ.out.1.none HN.out)
          clear h1
          go_wp2_with fail
          refine (take_no_f HQ.out.2.oq HQ.out.1.i.ok _ (.inr HN.out)).mono ?_
          rintro e w5 ⟨rfl, hb5⟩
          have HM5 := Lib.hid (HQ.out.2.bel hb5)
          clear hb5
          go_wp2
          refine name_world ?_
          intro w6 hw6
          have HM6 := Lib.hid (show FM w w6 g bL bS q left since rb by rw [hw6]; exact HM5.out.bel ((Below.refl _ _).alloc (Nat.le_refl _) _))
          clear hw6
          go_loop [16] (fun i => ∃ t : Nat, t ≤ 8 ∧ i = .int .i64 t) (fun i => 8 - (intOf i).toNat)
          case atStart => exact ⟨0, by omega, rfl⟩
          case round =>
            obtain ⟨t, ht, rfl⟩ := hrel
            by_cases hlt : t < 8
            · obtain ⟨arr, r1, r2, r3⟩ := HM6.out.l
              have b1 : w6.cell? ⟨bL, t, none⟩ = some (.int .i64 0) := by rw [cell_of_row w6 bL t arr 3 (0, 0) r1, r3 t hlt, HZ.out t hlt]; rfl
              have ht0 : (0 : Int) ≤ (t : Int) := by omega
              have ht1 : (t : Int) < 8 := by omega
              clear r1 r2 r3
              go_wp2
              go_round
              case rel => exact ⟨t + 1, by omega, by go_num⟩
              case measure => (simp [intOf]; omega)
            · obtain rfl : t = 8 := by omega
              go_wp2
              go_ret
              exact ⟨rfl, HM6.out.b⟩
        · obtain ⟨k1, k2, k3⟩ := HQ.out.1.i.head s h2 m ms h3
          have hn8 := HQ.out.1.n
          have hs8 : s < 8 := by omega
          have ht := take_s HQ.out.2.oq HQ.out.1.i.ok s m ms x h1 h2 h3 hx1 k1 k2 k3
          have hwq := takeQ_wai1 q s m ms x hx1 k1
          have HW := Lib.hid (show (takeQ q s m ms x).wai.toNat < q.wai.toNat by omega)
          have hc : (q.opn = s ∧ m.begun = true) ∨ (q.opn < 0 ∧ m.begun = false) := by
            rcases h4 with h4 | h4
            · exact .inl h4
            · exact .inr ⟨h4.1, h4.2.1⟩
          obtain ⟨q', hq'⟩ : ∃ q', q' = takeQ q s m ms x := ⟨_, rfl⟩
          obtain ⟨xs, hxs⟩ : ∃ xs, xs = m.data.take x := ⟨_, rfl⟩
          obtain ⟨sv, hsv⟩ : ∃ sv, sv = (begM q s m).ssn := ⟨_, rfl⟩
          obtain ⟨en, hen⟩ : ∃ en, en = decide (m.data.length ≤ x) := ⟨_, rfl⟩
          rw [← hq', ← hxs, ← hsv, ← hen] at ht
          have HT := Lib.hid ht
          have HQ' := Lib.hid hq'
          have HWQ := Lib.hid (wq_of HQ.out.2.oq)
          have hs0 : (0 : Int) ≤ (s : Int) := by omega
          have hs1 : (s : Int) < 8 := by omega
          have hs7 : (s : Int) ≤ 7 := by omega
          rcases h4 with h4 | ⟨h4, h5, ii, h6, h7, h8⟩
          · have HF := Lib.hid (show FI q' left since by rw [hq']; exact HQ.out.1.cont h2 h3 h4 x hx1)
            rw [h4.2] at HT
            clear h1 h2 h3 h4 hc ht hq' hxs hsv hen hwq k1 k2 k3 hn8
            go_wp2_with fail
            rw [HX.out]
            refine (HT.out).mono ?_
            rintro e w5 ⟨gd, cd, rfl, hst, _, _⟩
            have HM5 := Lib.hid (HQ.out.2.stp hst)
            clear hst
            go_wp2
            go_roundw
            case rel => exact ⟨q', left, since, rb, Lib.hid ⟨HF.out, HM5.out.bel ((Below.refl _ _).alloc (Nat.le_refl _) _)⟩⟩
            case measure => (rw [wq_of (HM5.out.bel ((Below.refl _ _).alloc (Nat.le_refl _) _)).oq, HWQ.out, HQ'.out]; exact HW.out)
          · obtain ⟨hl0, hf⟩ := HQ.out.1.beg h2 h3 ⟨h4, h5⟩ h6 h7 h8 x hx1
            rw [← hq'] at hf
            have HF := Lib.hid hf
            have HFAIR := Lib.hid (fun f hf o ho hne hl => HQ.out.1.fair h2 h6 h7 h8 f hf o ho hne hl)
            have hll := HQ.out.1.left_le s hs8
            rw [h5] at HT
            clear h1 h2 h3 h4 h5 h6 h7 h8 hc ht hq' hxs hsv hen hwq k1 k2 k3 hn8 hf
            go_wp2_with fail
            rw [HX.out]
            refine (HT.out).mono ?_
            rintro e w5 ⟨gd, cd, rfl, hst, _, _⟩
            have HM5 := Lib.hid (HQ.out.2.stp hst)
            clear hst
            go_upto_block 6 with fail
            refine name_world ?_
            intro w6 hw6
            have HM6 := Lib.hid (show FM w w6 g bL bS q' left since rb by rw [hw6]; exact HM5.out.bel ((Below.refl _ _).alloc (Nat.le_refl _) _))
            clear hw6
            go_cut [14] (fun s14 wx => w6 = wx)
            case first =>
              obtain ⟨arrS, t1, t2, t3⟩ := HM6.out.s
              have b0 : w6.cell? ⟨bS, s, none⟩ = some (rv since rb s) := by rw [cell_of_row w6 bS s arrS 42 (0, 0) t1]; exact t3 s hs8
              unfold rv at b0
              clear t1 t2 t3
              cases hss : since s with
              | none =>
                rw [hss] at b0
                have hne := fun (W : World) => run_neq_slice_nil_any (P := Try.prog) W 42 4 none 0 0 0 0 Try.underlying42
                go_wp2
                go_loop [14] (fun i => i = .int .i64 0) (fun i => 0)
                case atStart => rfl
                case round =>
                  obtain rfl := hrel
                  go_wp2
                  go_meet
                  rfl
              | some f =>
                rw [hss] at b0
                have hne := fun (W : World) => run_neq_slice_nil_any (P := Try.prog) W 42 4 (some ⟨rb s, 0, none⟩) 8 8 0 0 Try.underlying42
                obtain ⟨arrB, u1, u2, u3⟩ := HM6.out.r s hs8 f hss
                obtain ⟨arrL, v1, v2, v3⟩ := HM6.out.l
                have HB := Lib.hid (fun o ho => (cell_of_row w6 (rb s) o arrB 4 (0, 0) u1).trans (u3 o ho))
                have HL := Lib.hid (fun o ho => (cell_of_row w6 bL o arrL 3 (0, 0) v1).trans (v3 o ho))
                have HSS := Lib.hid hss
                clear u1 u2 u3 v1 v2 v3 hss
                go_wp2
                go_loop [14] (fun i => ∃ o : Nat, o ≤ 8 ∧ i = .int .i64 o) (fun i => 8 - (intOf i).toNat)
                case atStart => exact ⟨0, by omega, rfl⟩
                case round =>
                  obtain ⟨o, ho, rfl⟩ := hrel
                  by_cases hlt : o < 8
                  · have ho0 : (0 : Int) ≤ (o : Int) := by omega
                    have ho1 : (o : Int) < 8 := by omega
                    by_cases hos : o = s
                    · subst hos
                      go_wp2
                      go_round
                      case rel => exact ⟨o + 1, by omega, by go_num⟩
                      case measure => (simp [intOf]; omega)
                    · have e1 : ((o : Int) == (s : Int)) = false := by rw [beq_eq_false_iff_ne]; omega
                      have e2 : ((o : Int) != (s : Int)) = true := by rw [bne_iff_ne]; omega
                      have c1 := HL.out o hlt
                      by_cases hlo : 0 < left o
                      · have hlo' : (0 : Int) < (left o : Int) := by omega
                        have c2 := HB.out o hlt
                        rw [HFAIR.out f HSS.out o hlt hos hlo] at c2
                        go_wp2
                        go_round
                        case rel => exact ⟨o + 1, by omega, by go_num⟩
                        case measure => (simp [intOf]; omega)
                      · have hlo' : ¬ (0 : Int) < (left o : Int) := by omega
                        go_wp2
                        go_round
                        case rel => exact ⟨o + 1, by omega, by go_num⟩
                        case measure => (simp [intOf]; omega)
                  · obtain rfl : o = 8 := by omega
                    go_wp2
                    go_meet
                    rfl
            case rest =>
            subst hcut
            clear HFAIR
            go_wp2
            go_loopw [15] (fun i wr => ∃ o : Nat, o ≤ 8 ∧ i = .int .i64 o ∧ Hid (FM w wr g bL bS q' left (sinceK since s o) rb)) (fun i _ => 8 - (intOf i).toNat)
            case atStart => exact ⟨0, by omega, rfl, Lib.hid (by rw [sinceK_0]; exact HM6.out)⟩
            case round =>
              obtain ⟨o, ho, rfl, HMr⟩ := hrel
              by_cases hlt : o < 8
              · have ho0 : (0 : Int) ≤ (o : Int) := by omega
                have ho1 : (o : Int) < 8 := by omega
                obtain ⟨arrS, t1, t2, t3⟩ := HMr.out.s
                have b0 : wr.cell? ⟨bS, o, none⟩ = some (rv (sinceK since s o) rb o) := by rw [cell_of_row wr bS o arrS 42 (0, 0) t1]; exact t3 o hlt
                unfold rv at b0
                rw [sinceK_at] at b0
                clear t1 t2 t3
                cases hss : since o with
                | none =>
                  rw [hss] at b0
                  have hne := fun (W : World) => run_neq_slice_nil_any (P := Try.prog) W 42 4 none 0 0 0 0 Try.underlying42
                  have HSS := Lib.hid hss
                  clear hss
                  go_wp2
                  go_roundw
                  case rel => exact ⟨o + 1, by omega, by go_num, Lib.hid (by rw [sinceK_none since s o HSS.out]; exact HMr.out)⟩
                  case measure => (simp [intOf]; omega)
                | some f =>
                  rw [hss] at b0
                  have hne := fun (W : World) => run_neq_slice_nil_any (P := Try.prog) W 42 4 (some ⟨rb o, 0, none⟩) 8 8 0 0 Try.underlying42
                  obtain ⟨arrB, u1, u2, u3⟩ := HMr.out.r o hlt f (by rw [sinceK_at]; exact hss)
                  have c1 := (cell_of_row wr (rb o) s arrB 4 (0, 0) u1).trans (u3 s hs8)
                  have f1 := frozen_of_row wr (rb o) s arrB 4 u1
                  have HSS := Lib.hid hss
                  clear hss u1 u2 u3
                  go_wp2
                  go_roundw
                  case rel => exact ⟨o + 1, by omega, by go_num, Lib.hid (by rw [← sinceK_some since s o f HSS.out]; exact HMr.out.setR o s hlt f (by rw [sinceK_at]; exact HSS.out))⟩
                  case measure => (simp [intOf]; omega)
              · obtain rfl : o = 8 := by omega
                have hnew := HMr.out.newR s hs8
                have hsl : bS < wr.heap.size := HMr.out.s.lt
                have hllt : bL < wr.heap.size := HMr.out.l.lt
                obtain ⟨arrS, t1, t2, t3⟩ := HMr.out.s
                obtain ⟨arrL, v1, v2, v3⟩ := HMr.out.l
                have b0 : wr.cell? ⟨bS, s, none⟩ = some (rv (sinceK since s 8) rb s) := by rw [cell_of_row wr bS s arrS 42 (0, 0) t1]; exact t3 s hs8
                have f0 := frozen_of_row wr bS s arrS 42 t1
                have c0 : wr.cell? ⟨bL, s, none⟩ = some (.int .i64 (left s)) := by rw [cell_of_row wr bL s arrL 3 (0, 0) v1]; exact v3 s hs8
                have f2 := frozen_of_row wr bL s arrL 3 v1
                have hnls : bL ≠ bS := HMr.out.ne
                have hnls' := hnls.symm
                have hl1 : (0 : Int) < (left s : Int) := by omega
                have HNEW := Lib.hid hnew
                clear t1 t2 t3 v1 v2 v3 hnew
                go_wp2
                have hfin := HNEW.out.setL s (left s - 1)
                rw [show (((left s - 1 : Nat) : Int)) = (left s : Int) - 1 from by omega] at hfin
                rw [World.setCell_alloc_past _ _ _ _ hsl, World.setCell_alloc_past _ _ _ _ (show bL < (wr.setCell ⟨bS, s, none⟩ (.slice (some ⟨wr.heap.size, 0, none⟩) 8 8)).heap.size by simpa using hllt)] at hfin
                have hFI : FI q' (upd left s (left s - 1)) (upd (sinceK since s 8) s (some fun _ => false)) := HF.out.congr fun t ht => by
                  unfold sinceN
                  by_cases e : t = s
                  · subst e; rw [upd_same, upd_same]
                  · rw [upd_ne _ _ _ _ e, upd_ne _ _ _ _ e]; unfold sinceK; rw [if_pos ht]
                have HFIN := Lib.hid hfin
                have HFI := Lib.hid hFI
                clear hfin hFI
                go_roundw
                case rel => exact ⟨q', _, _, _, Lib.hid ⟨HFI.out, HFIN.out⟩⟩
                case measure => (rw [wq_of HFIN.out.oq, HWQ.out, HQ'.out]; exact HW.out)
