/- The law SplitBounds. -/
import Derived.Test.YtbcmgchclkjgeaaI
import Derived.Test.YtbcmgchclkjgeaaO
import Derived.Deep.OwnRows
namespace Go.Proofs.Ytbcmgchclkjgeaa.C
open Go.RowKit
set_option linter.unusedVariables false
set_option linter.unusedSimpArgs false
attribute [local go_sem high] max2_mx min2_mn max_two min_two
attribute [local go_sem ↓] Go.wp_at_zero Go.wp_at_succ

/-- all are from 0 on and under a bound -/
def under (S : Int) (xs : List Int) : Bool := xs.all fun x => decide (0 ≤ x ∧ x < S)
theorem under_rd {S : Int} {xs : List Int} (h : under S xs = true) (k : Nat) (hk : k < xs.length) : 0 ≤ rdI xs k ∧ rdI xs k < S := by
  unfold under at h
  rw [List.all_eq_true] at h
  have := h _ (List.getElem_mem hk)
  unfold rdI
  rw [List.getD_eq_getElem?_getD, List.getElem?_eq_getElem hk]
  simpa using this
theorem under_zero (S : Int) (hS : 0 < S) (n : Nat) : under S (List.replicate n 0) = true := by
  unfold under
  rw [List.all_eq_true]
  intro x hx
  obtain ⟨_, rfl⟩ := List.mem_replicate.1 hx
  simpa using hS
theorem under_put {b p m path size : Int} {xs : List Int} (h : under (ceilB b p + m) xs = true) (he : putE b p m path size xs = 0) :
    under (ceilB b p + m) (putL b p m path size xs) = true ∧ (putL b p m path size xs).length = xs.length := by
  have hl : putL b p m path size xs = xs.set path.toNat (rdI xs path.toNat + size) := by unfold putL; rw [if_pos he]
  rw [hl]
  refine ⟨?_, by simp⟩
  have h1 : mayE b p m path xs = 0 := by
    unfold putE at he
    by_cases h1 : mayE b p m path xs = 0
    · exact h1
    · rw [if_neg h1] at he; exact absurd he h1
  have h2 : inB size 1 m = true := by
    unfold putE at he
    rw [if_pos h1] at he
    by_cases h2 : inB size 1 m = true
    · exact h2
    · rw [if_neg h2] at he; omega
  have h3 : mayV b p m path xs = true := by
    unfold putE at he
    rw [if_pos h1, if_pos h2] at he
    by_cases h3 : mayV b p m path xs = true
    · exact h3
    · rw [if_neg h3] at he; omega
  obtain ⟨g1, g2, g3⟩ := may_good h1
  have hin : inB path 0 (p - 1) = true := by unfold inB; simp; omega
  rw [(mayE_ok g1 hin).2] at h3
  have h4 := of_decide_eq_true h3
  have h5 := inB_t h2
  have hlen := (check_good g1).2.2.2.2.2.2.1
  have hk : path.toNat < xs.length := by omega
  have h6 := under_rd h _ hk
  unfold under at h ⊢
  rw [List.all_eq_true] at h ⊢
  intro x hx
  rcases List.mem_or_eq_of_mem_set hx with h1 | h1
  · exact h x h1
  · rw [h1]; simp; omega
theorem Rd_made (w : World) (n : Nat) (e : TypeId) (hn : n ≤ 9223372036854775807) : Rd .i64 (w.alloc (.cells (madeCells #[.int .i64 0] n) e)) (some ⟨w.heap.size, 0, none⟩) n (List.replicate n 0) := by
  have h := Rd_new w .i64 e (List.replicate n 0) (by simpa using hn)
  have e1 : madeCells #[Value.int .i64 0] n = ((List.replicate n (0 : Int)).map fun x => Value.int .i64 x).toArray := by
    simp [madeCells]
    apply Array.ext
    · simp
    · intro i h1 h2
      simp [Nat.mod_one]
  rw [e1]
  simpa using h
set_option maxHeartbeats 4000000 in
set_option maxRecDepth 100000 in
theorem walk_SplitBounds (a0_0 a0_1 a0_2 : Int) (a1 : Option Addr) (len1 cap1 : Nat) (zl : List OpenStruct.E48) (w : World) (w0_0 : (Lit.int .i64 a0_0).wf = true) (w0_1 : (Lit.int .i64 a0_1).wf = true) (w0_2 : (Lit.int .i64 a0_2).wf = true)
    (w1 : OpenStruct.Row48 w a1 len1 cap1 zl) :
    Calls Try.prog 7 #[.agg #[.int .i64 a0_0, .int .i64 a0_1, .int .i64 a0_2], .slice a1 len1 cap1] w fun e w' => e = .returned (.bool true) ∧ Below w.heap.size w w' := by
  obtain ⟨hzl, hlc, hmx, hnone, hsome, hat⟩ := w1
  clear w0_0 w0_1 w0_2 hnone hlc
  have HAT := Lib.hid hat
  have HSOME := Lib.hid hsome
  clear hat hsome hzl
  have hu23 := Try.underlying23
  cases hm : mayB a0_0 a0_1 a0_2
  · go_enter Try.func7, Try.ntmps7
    go_wp2_with fail
    refine (awake _).mono ?_
    rintro e w1 ⟨rfl, hb1⟩
    obtain ⟨c1, f1⟩ := bcell hb1
    have z1 : w.heap.size < w1.heap.size := by have := hb1.size; simp at this; omega
    go_wp2_with fail
    refine (pshare_bad _ _ _ _ hm).mono ?_
    rintro e w2 ⟨rfl, hb2⟩
    obtain ⟨c2, f2⟩ := bcell hb2
    go_wp2
    go_ret
    exact ⟨rfl, (by repeat (first | exact Below.refl _ _ | assumption | refine Below.drew ?_ | refine below_dN ?_ _ | refine Below.setCell ?_ (by first | omega | (simp; done) | (simp; omega)) _ | refine below_al ?_ (by first | omega | (simp; done) | (simp; omega)) _ | refine below_tr (by assumption) ?_ (by first | omega | (simp; done) | (simp; omega))))⟩
  · obtain ⟨hb0, hp0, hm0⟩ : inB a0_0 1 1073741824 = true ∧ inB a0_1 1 8 = true ∧ inB a0_2 100 1500 = true := by simpa [mayB] using hm
    obtain ⟨b0, b1⟩ := inB_t hb0
    obtain ⟨p0, p1⟩ := inB_t hp0
    obtain ⟨m0, m1⟩ := inB_t hm0
    clear hb0 hp0 hm0
    obtain ⟨n, rfl⟩ := Int.eq_ofNat_of_zero_le (show 0 ≤ a0_1 by omega)
    have hcr := ceil_range a0_0 n (by omega) b1 p0 p1
    generalize hS : ceilB a0_0 n = S at hcr
    have HS := Lib.hid hS
    clear hS
    obtain ⟨s0, s1⟩ := hcr
    have hmk := run_make_row' (P := Try.prog) 29 3 (.int .i64 0) 8 Try.underlying29 info3 rfl .i64 .i64 n (by omega) (by omega)
    go_enter Try.func7, Try.ntmps7
    go_wp2_with fail
    refine (awake _).mono ?_
    rintro e w1 ⟨rfl, hb1⟩
    obtain ⟨c1, f1⟩ := bcell hb1
    have z1 : w.heap.size < w1.heap.size := by have := hb1.size; simp at this; omega
    go_wp2_with fail
    refine (pshare_ok _ _ _ _ hm).mono ?_
    rw [HS.out]
    rintro e w2 ⟨rfl, hb2⟩
    obtain ⟨c2, f2⟩ := bcell hb2
    have z2' : w.heap.size < w2.heap.size := by have := hb2.size; omega
    have hB2 : Below w.heap.size w w2 := (by repeat (first | exact Below.refl _ _ | assumption | refine Below.drew ?_ | refine below_dN ?_ _ | refine Below.setCell ?_ (by first | omega | (simp; done) | (simp; omega)) _ | refine below_al ?_ (by first | omega | (simp; done) | (simp; omega)) _ | refine below_tr (by assumption) ?_ (by first | omega | (simp; done) | (simp; omega))))
    have q0 : w2.cell? ⟨w.heap.size, 0, none⟩ = some (.int .i64 a0_0) := by simp [go_sem, c1, c2, z1, z2']
    have q1 : w2.cell? ⟨w.heap.size, 1, none⟩ = some (.int .i64 n) := by simp [go_sem, c1, c2, z1, z2']
    have q2 : w2.cell? ⟨w.heap.size, 2, none⟩ = some (.int .i64 a0_2) := by simp [go_sem, c1, c2, z1, z2']
    go_wp2
    clear c1 c2 f1 f2
    go_loopw [7, 8] (fun out i wr => ∃ (j c : Nat) (A : Option Addr) (xs : List Int), j ≤ len1 ∧ i = .int .i64 j ∧ out = .slice A n c ∧ Hid (Rd .i64 wr A n xs ∧ under (S + a0_2) xs = true) ∧ Below w2.heap.size w2 wr) (fun _ i _ => len1 - (intOf i).toNat)
    case atStart => exact ⟨0, n, _, List.replicate n 0, by omega, rfl, rfl, ⟨Rd_made w2 n 3 (by omega), under_zero _ (by omega) n⟩, (by repeat (first | exact Below.refl _ _ | assumption | refine Below.drew ?_ | refine below_dN ?_ _ | refine Below.setCell ?_ (by first | omega | (simp; done) | (simp; omega)) _ | refine below_al ?_ (by first | omega | (simp; done) | (simp; omega)) _ | refine below_tr (by assumption) ?_ (by first | omega | (simp; done) | (simp; omega))))⟩
    case round =>
      obtain ⟨j, c, A, xs, hj, rfl, rfl, hrd, hbr⟩ := hrel
      have hsz := hbr.size
      have hzr : w.heap.size < wr.heap.size := by omega
      have HRD := Lib.hid hrd.out.1
      have HUN := Lib.hid hrd.out.2
      clear hrd
      have r0 : wr.cell? ⟨w.heap.size, 0, none⟩ = some (.int .i64 a0_0) := by rw [hbr.cell (p := ⟨w.heap.size, 0, none⟩) z2']; exact q0
      have r1 : wr.cell? ⟨w.heap.size, 1, none⟩ = some (.int .i64 n) := by rw [hbr.cell (p := ⟨w.heap.size, 1, none⟩) z2']; exact q1
      have r2 : wr.cell? ⟨w.heap.size, 2, none⟩ = some (.int .i64 a0_2) := by rw [hbr.cell (p := ⟨w.heap.size, 2, none⟩) z2']; exact q2
      have HR2 := Lib.hid q2
      clear q0 q1 q2
      by_cases hlt : j < len1
      · obtain ⟨ad, rfl⟩ := HSOME.out (by omega)
        obtain ⟨e0, e1, g0, g1⟩ := HAT.out ad rfl j hlt
        generalize OpenStruct.E48.f0 (zl.getD j OpenStruct.d48) = path at e0 g0
        generalize OpenStruct.E48.f1 (zl.getD j OpenStruct.d48) = size at e1 g1
        have hB : Below w.heap.size w wr := (by repeat (first | exact Below.refl _ _ | assumption | refine Below.drew ?_ | refine below_dN ?_ _ | refine Below.setCell ?_ (by first | omega | (simp; done) | (simp; omega)) _ | refine below_al ?_ (by first | omega | (simp; done) | (simp; omega)) _ | refine below_tr (by assumption) ?_ (by first | omega | (simp; done) | (simp; omega))))
        have e0' : wr.cell? (ad.add (j * 2)) = some (.int .i64 path) := (hB.cell (World.block_lt_of_cell? w _ e0)).trans e0
        have e1' : wr.cell? ⟨(ad.add (j * 2)).block, (ad.add (j * 2)).off + 1, none⟩ = some (.int .i64 size) := (hB.cell (World.block_lt_of_cell? w _ e1)).trans e1
        have hk3' := World.block_lt_of_cell? wr _ e0'
        have hk3 : ad.block < wr.heap.size := by have := hk3'; rwa [block_add] at this
        have hj0 : (0 : Int) ≤ (j : Int) := by omega
        have hj1 : (j : Int) < (len1 : Int) := by omega
        obtain ⟨sz0, sz1⟩ : -9223372036854775808 ≤ size ∧ size ≤ 9223372036854775807 := by simpa [Lit.wf, IntKind.min, IntKind.max, IntKind.signed, IntKind.bits] using g1
        clear e0 e1 g0 g1
        have hput := fun W hr => put a0_0 n a0_2 path size A n c xs W hr sz0 sz1
        by_cases he : putE a0_0 n a0_2 path size xs = 0
        · obtain ⟨hun', hlen'⟩ := under_put (by rw [HS.out]; exact HUN.out) he
          rw [HS.out] at hun'
          rw [he] at hput
          generalize putL a0_0 n a0_2 path size xs = ys at hput hun' hlen'
          have hly : ys.length = n := hlen'.trans HRD.out.1
          unfold RetL at hput
          rw [hly] at hput
          have HPUT := Lib.hid hput
          have HUN' := Lib.hid hun'
          have HLY := Lib.hid hly
          clear hput he hun' hlen' hly
          go_wp2_with fail
          go_region_held3 (fun w' => Below wr.heap.size wr w' ∧ ∀ a : Addr, a.block < wr.heap.size → w'.cell? a = wr.cell? a) (first | exact keep0 _ | assumption | exact keepB (by repeat (first | exact Below.refl _ _ | assumption | refine Below.drew ?_ | refine below_dN ?_ _ | refine Below.setCell ?_ (by first | omega | (simp; done) | (simp; omega)) _ | refine below_al ?_ (by first | omega | (simp; done) | (simp; omega)) _ | refine below_tr (by assumption) ?_ (by first | omega | (simp; done) | (simp; omega)))) | exact keep1 (by assumption) (by first | assumption | exact (Below.refl _ _).drew | exact And.left (by assumption)) (by first | omega | (simp; done) | (simp; omega))) (first | (go_at_call 20; refine (HPUT.out _ (Rd.below HRD.out (by first | assumption | exact (Below.refl _ _).drew | exact And.left (by assumption)))).mono ?_; rintro e w' ⟨A', c', rfl, hrd', hbn⟩))
          have hB5 : Below wr.heap.size wr w' := below_tr hbn (by first | assumption | exact (Below.refl _ _).drew | exact And.left (by assumption)) (Nat.le_refl _)
          have hB6 : Below w2.heap.size w2 w' := below_tr hB5 hbr (Nat.le_refl _)
          have HRD' := Lib.hid hrd'
          clear hrd' hbn
          go_wp2
          obtain ⟨wo, rfl⟩ : ∃ wo : World, wo = wr := ⟨_, rfl⟩
          go_loopw [11] (fun i wk => ∃ k : Nat, k ≤ n ∧ i = .int .i64 k ∧ Below w'.heap.size w' wk) (fun i _ => n - (intOf i).toNat)
          case atStart => exact ⟨0, by omega, rfl, Below.refl _ _⟩
          case round =>
            obtain ⟨k, hk, rfl, hbk⟩ := hrel
            have hsz6 := hB6.size
            by_cases hkn : k < n
            · obtain ⟨ad', rfl, hcell⟩ := (Rd.below HRD'.out hbk).2.2 (by omega)
              have hck := hcell k hkn
              obtain ⟨u0, u1⟩ := under_rd HUN'.out k (by rw [HLY.out]; exact hkn)
              have hB7 : Below w2.heap.size w2 wr := below_tr hbk hB6 (Nat.le_refl _)
              have s2 : wr.cell? ⟨w.heap.size, 2, none⟩ = some (.int .i64 a0_2) := by rw [hB7.cell (p := ⟨w.heap.size, 2, none⟩) z2']; exact HR2.out
              have hk0 : (0 : Int) ≤ (k : Int) := by omega
              have hk1 : (k : Int) < (n : Int) := by omega
              have hw1 : IntKind.i64.wrap (S + a0_2) = S + a0_2 := by rw [IntKind.wrap_i64]; omega
              have hno : decide (S + a0_2 ≤ rdI ys k) = false := by simp; omega
              clear hcell
              go_wp2_with fail
              go_quiet (fail)
              go_wp2
              go_roundw
              case rel => exact ⟨k + 1, by omega, by go_num, (by repeat (first | exact Below.refl _ _ | assumption | refine Below.drew ?_ | refine below_dN ?_ _ | refine Below.setCell ?_ (by first | omega | (simp; done) | (simp; omega)) _ | refine below_al ?_ (by first | omega | (simp; done) | (simp; omega)) _ | refine below_tr (by assumption) ?_ (by first | omega | (simp; done) | (simp; omega))))⟩
              case measure => simp [intOf]; omega
            · go_wp2
              go_roundw
              case rel => exact ⟨j + 1, c', A', ys, by omega, by go_num, rfl, ⟨Rd.below HRD'.out hbk, HUN'.out⟩, below_tr hbk hB6 (Nat.le_refl _)⟩
              case measure => simp [intOf]; omega
        · have hne : (putE a0_0 n a0_2 path size xs != 0) = true := by simpa using he
          generalize putE a0_0 n a0_2 path size xs = E at hput hne
          generalize putL a0_0 n a0_2 path size xs = ys at hput
          have HPUT := Lib.hid hput
          clear hput he
          go_wp2_with fail
          go_region_held3 (fun w' => Below wr.heap.size wr w' ∧ ∀ a : Addr, a.block < wr.heap.size → w'.cell? a = wr.cell? a) (first | exact keep0 _ | assumption | exact keepB (by repeat (first | exact Below.refl _ _ | assumption | refine Below.drew ?_ | refine below_dN ?_ _ | refine Below.setCell ?_ (by first | omega | (simp; done) | (simp; omega)) _ | refine below_al ?_ (by first | omega | (simp; done) | (simp; omega)) _ | refine below_tr (by assumption) ?_ (by first | omega | (simp; done) | (simp; omega)))) | exact keep1 (by assumption) (by first | assumption | exact (Below.refl _ _).drew | exact And.left (by assumption)) (by first | omega | (simp; done) | (simp; omega))) (first | (go_at_call 20; refine (HPUT.out _ (Rd.below HRD.out (by first | assumption | exact (Below.refl _ _).drew | exact And.left (by assumption)))).mono ?_; rintro e w' ⟨A', c', rfl, hrd', hbn⟩))
          go_wp2
          go_roundw
          case rel => exact ⟨j + 1, c, A, xs, by omega, by go_num, rfl, ⟨Rd.below HRD.out (by repeat (first | exact Below.refl _ _ | assumption | refine Below.drew ?_ | refine below_dN ?_ _ | refine Below.setCell ?_ (by first | omega | (simp; done) | (simp; omega)) _ | refine below_al ?_ (by first | omega | (simp; done) | (simp; omega)) _ | refine below_tr (by assumption) ?_ (by first | omega | (simp; done) | (simp; omega)))), HUN.out⟩, (by repeat (first | exact Below.refl _ _ | assumption | refine Below.drew ?_ | refine below_dN ?_ _ | refine Below.setCell ?_ (by first | omega | (simp; done) | (simp; omega)) _ | refine below_al ?_ (by first | omega | (simp; done) | (simp; omega)) _ | refine below_tr (by assumption) ?_ (by first | omega | (simp; done) | (simp; omega))))⟩
          case measure => simp [intOf]; omega
      · go_wp2
        go_ret
        exact ⟨rfl, (by repeat (first | exact Below.refl _ _ | assumption | refine Below.drew ?_ | refine below_dN ?_ _ | refine Below.setCell ?_ (by first | omega | (simp; done) | (simp; omega)) _ | refine below_al ?_ (by first | omega | (simp; done) | (simp; omega)) _ | refine below_tr (by assumption) ?_ (by first | omega | (simp; done) | (simp; omega))))⟩
