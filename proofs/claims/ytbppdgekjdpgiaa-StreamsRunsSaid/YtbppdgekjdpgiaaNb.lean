/- The law StreamsNobody. -/
import Derived.Test.YtbppdgekjdpgiaaY
import Derived.Test.YtbppdgekjdpgiaaU
namespace Go.Proofs.Ytbppdgekjdpgiaa.C
open Go.RowKit
set_option linter.unusedVariables false
set_option linter.unusedSimpArgs false
attribute [local go_sem high] max2_mx min2_mn max_two min_two
attribute [local go_sem ↓] Go.wp_at_zero Go.wp_at_succ

theorem NoB.below {v : Value} {w w' : World} (h : NoB v w) (hb : Below w.heap.size w w') : NoB v w' := fun w2 h2 => h w2 (hb.trans (h2.mono hb.size))
theorem quiet_sym {P : Program} {f : FuncId} {args : Array Value} {w : World} {n : Nat} {v : Value}
    (h : Calls P f args (w.drewN n) fun e w' => e = .returned v ∧ w.drewN n = w') : Calls P f args (w.drewN n) fun e w'' => e = .returned v ∧ ∃ m, w'' = w.drewN m :=
  h.mono fun _ _ ⟨he, hm⟩ => ⟨he, n, hm.symm⟩
theorem NoB.drewN {v : Value} {w : World} (h : NoB v w) (n : Nat) : NoB v (w.drewN n) := h.below (below_drewN _ w n)
theorem nob_12l (v : Value) (x : Int) (w : World) (h : NoB v w) : Calls Try.prog 12 #[v, .int .i64 x] w fun e w' => e = .returned (.tuple #[.agg #[.int .u16 0, .int .u16 0, .int .u32 0, .bool false, .slice none 0 0, .bool false, .bool false], .bool false]) ∧ Below w.heap.size w w' := nob_12 v x w h
set_option maxHeartbeats 8000000 in
set_option maxRecDepth 100000 in
theorem walk_StreamsNobody (kd st pr : Int) (un : Bool) (A : Option Addr) (n c : Nat) (zs : List Int) (x : Int) (w : World) (w0 : (Lit.int .i64 kd).wf = true) (w1 : (Lit.int .u16 st).wf = true) (w2 : (Lit.int .u32 pr).wf = true) (w4 : Rd .u8 w A n zs ∧ (∀ y ∈ zs, (Lit.int .u8 y).wf = true) ∧ n ≤ c ∧ (A = none → c = 0)) (w3 : (Lit.int .i64 x).wf = true) :
    Calls Try.prog 8 #[.agg #[.int .i64 kd, .int .u16 st, .int .u32 pr, .bool un, .slice A n c, .int .i64 x]] w fun e w' => e = .returned (.bool true) ∧ Below w.heap.size w w' := by
  clear w0 w1 w2 w3 w4
  go_enter Try.func8, Try.ntmps8
  go_wp2
  refine name_world ?_
  intro W hW
  have hB : Below w.heap.size w W := by subst hW; exact (by repeat (first | with_reducible exact Below.refl _ _ | with_reducible assumption | with_reducible refine Below.drew ?_ | with_reducible refine below_dN ?_ _ | with_reducible refine Below.setCell ?_ (by first | omega | (simp; done) | (simp; omega)) _ | with_reducible refine below_al ?_ (by first | omega | (simp; done) | (simp; omega)) _ | exact Below.refl _ _ | assumption | refine Below.drew ?_ | refine below_dN ?_ _ | refine Below.setCell ?_ (by first | omega | (simp; done) | (simp; omega)) _ | refine below_al ?_ (by first | omega | (simp; done) | (simp; omega)) _ | refine below_tr (by assumption) ?_ (by first | omega | (simp; done) | (simp; omega)) | fail))
  have p0 : W.cell? ⟨w.heap.size + 2, 0, none⟩ = some (.pointer none) := by subst hW; simp [go_sem]
  have p1 : W.cell? ⟨w.heap.size + 2, 1, none⟩ = some (.pointer (some ⟨w.heap.size + 1, 0, none⟩)) := by subst hW; simp [go_sem]
  have p2 : W.cell? ⟨w.heap.size + 1, 0, none⟩ = some (.slice none 0 0) := by subst hW; simp [go_sem]
  have W1 := Lib.hid (show W.cell? ⟨w.heap.size, 1, none⟩ = some (.int .u16 st) by subst hW; simp [go_sem])
  have W2 := Lib.hid (show W.cell? ⟨w.heap.size, 2, none⟩ = some (.int .u32 pr) by subst hW; simp [go_sem])
  have W3 := Lib.hid (show W.cell? ⟨w.heap.size, 3, none⟩ = some (.bool un) by subst hW; simp [go_sem])
  have W4 := Lib.hid (show W.cell? ⟨w.heap.size, 4, none⟩ = some (.slice A n c) by subst hW; simp [go_sem])
  have W5 := Lib.hid (show W.cell? ⟨w.heap.size, 5, none⟩ = some (.int .i64 x) by subst hW; simp [go_sem])
  have hsz : W.heap.size = w.heap.size + 3 := by subst hW; simp
  have NB1 := Lib.hid (nob_zero _ W p2)
  have P0 := Lib.hid p0
  have P1 := Lib.hid p1
  have hlt : w.heap.size + 2 < W.heap.size := by omega
  have hlt0 : w.heap.size < W.heap.size := by omega
  clear hW p0 p1 p2 hsz
  go_loopw [16] (fun i wr => (i = .int .i64 0 ∨ i = .int .i64 1 ∨ i = .int .i64 2) ∧ Below W.heap.size W wr) (fun i _ => 2 - (intOf i).toNat)
  case atStart => exact ⟨.inl rfl, Below.refl _ _⟩
  case round =>
    obtain ⟨hi, hbr⟩ := hrel
    have q0 := (hbr.cell (p := ⟨w.heap.size + 2, 0, none⟩) hlt).trans P0.out
    have q1 := (hbr.cell (p := ⟨w.heap.size + 2, 1, none⟩) hlt).trans P1.out
    have q5 := (hbr.cell (p := ⟨w.heap.size, 5, none⟩) hlt0).trans W5.out
    rcases hi with rfl | rfl | rfl
    · have NB := Lib.hid (nob_nil wr)
      have hz : W.heap.size ≤ wr.heap.size := hbr.size
      have HBR := Lib.hid hbr
      clear hbr
      go_wp2_with fail
      refine (nob_12l (.pointer none) x _ NB.out).mono ?_
      rintro e w5 ⟨rfl, hb5⟩
      have NB5 := Lib.hid (NB.out.below hb5)
      have HB5 := Lib.hid (show Below W.heap.size W w5 from HBR.out.trans (hb5.mono hz))
      have hz5 : W.heap.size ≤ w5.heap.size := HB5.out.size
      clear hb5
      go_wp2_with fail
      refine (nob_15 (.pointer none) _ (NB5.out.below (by repeat (first | with_reducible exact Below.refl _ _ | with_reducible assumption | with_reducible refine Below.drew ?_ | with_reducible refine below_dN ?_ _ | with_reducible refine Below.setCell ?_ (by first | omega | (simp; done) | (simp; omega)) _ | with_reducible refine below_al ?_ (by first | omega | (simp; done) | (simp; omega)) _ | exact Below.refl _ _ | assumption | refine Below.drew ?_ | refine below_dN ?_ _ | refine Below.setCell ?_ (by first | omega | (simp; done) | (simp; omega)) _ | refine below_al ?_ (by first | omega | (simp; done) | (simp; omega)) _ | refine below_tr (by assumption) ?_ (by first | omega | (simp; done) | (simp; omega)) | fail)))).mono ?_
      rintro e w6 ⟨rfl, rfl⟩
      go_upto_region 7 with fail
      refine name_world ?_
      intro w7 hw7
      have NB7 := Lib.hid (show NoB (.pointer none) w7 by rw [hw7]; exact NB5.out.below (by repeat (first | with_reducible exact Below.refl _ _ | with_reducible assumption | with_reducible refine Below.drew ?_ | with_reducible refine below_dN ?_ _ | with_reducible refine Below.setCell ?_ (by first | omega | (simp; done) | (simp; omega)) _ | with_reducible refine below_al ?_ (by first | omega | (simp; done) | (simp; omega)) _ | exact Below.refl _ _ | assumption | refine Below.drew ?_ | refine below_dN ?_ _ | refine Below.setCell ?_ (by first | omega | (simp; done) | (simp; omega)) _ | refine below_al ?_ (by first | omega | (simp; done) | (simp; omega)) _ | refine below_tr (by assumption) ?_ (by first | omega | (simp; done) | (simp; omega)) | fail)))
      have hb7 : Below W.heap.size W w7 := by rw [hw7]; exact HB5.out.alloc hz5 _
      have HB7 := Lib.hid hb7
      have hz7 : W.heap.size ≤ w7.heap.size := hb7.size
      have o1 := (hb7.cell (p := ⟨w.heap.size, 1, none⟩) hlt0).trans W1.out
      have o2 := (hb7.cell (p := ⟨w.heap.size, 2, none⟩) hlt0).trans W2.out
      have o3 := (hb7.cell (p := ⟨w.heap.size, 3, none⟩) hlt0).trans W3.out
      have o4 := (hb7.cell (p := ⟨w.heap.size, 4, none⟩) hlt0).trans W4.out
      have o5 := (hb7.cell (p := ⟨w.heap.size, 5, none⟩) hlt0).trans W5.out
      clear hw7 hb7
      go_quiet ((first
        | (go_at_call 11; exact quiet_sym (nob_11 (.pointer none) _ _ _ _ _ _ _ (NB7.out.drewN _)))
        | (go_at_call 16; exact quiet_sym (nob_16 (.pointer none) _ _ (NB7.out.drewN _)))
        | (go_at_call 14; exact quiet_sym (nob_14 (.pointer none) _ (NB7.out.drewN _)))
        | (go_at_call 13; exact quiet_sym (nob_13 (.pointer none) _ (NB7.out.drewN _)))
        | (go_at_call 17; exact quiet_sym (nob_17 (.pointer none) _ (NB7.out.drewN _)))
        | (go_at_call 20; exact quiet_sym (nob_20 (.pointer none) _ _ (NB7.out.drewN _)))))
      go_wp2
      go_roundw
      case rel => exact ⟨.inr (.inl rfl), below_dN HB7.out _⟩
      case measure => simp [intOf]
    · have NB := Lib.hid (NB1.out.below hbr)
      have hz : W.heap.size ≤ wr.heap.size := hbr.size
      have HBR := Lib.hid hbr
      clear hbr
      go_wp2_with fail
      refine (nob_12l (.pointer (some ⟨w.heap.size + 1, 0, none⟩)) x _ NB.out).mono ?_
      rintro e w5 ⟨rfl, hb5⟩
      have NB5 := Lib.hid (NB.out.below hb5)
      have HB5 := Lib.hid (show Below W.heap.size W w5 from HBR.out.trans (hb5.mono hz))
      have hz5 : W.heap.size ≤ w5.heap.size := HB5.out.size
      clear hb5
      go_wp2_with fail
      refine (nob_15 (.pointer (some ⟨w.heap.size + 1, 0, none⟩)) _ (NB5.out.below (by repeat (first | with_reducible exact Below.refl _ _ | with_reducible assumption | with_reducible refine Below.drew ?_ | with_reducible refine below_dN ?_ _ | with_reducible refine Below.setCell ?_ (by first | omega | (simp; done) | (simp; omega)) _ | with_reducible refine below_al ?_ (by first | omega | (simp; done) | (simp; omega)) _ | exact Below.refl _ _ | assumption | refine Below.drew ?_ | refine below_dN ?_ _ | refine Below.setCell ?_ (by first | omega | (simp; done) | (simp; omega)) _ | refine below_al ?_ (by first | omega | (simp; done) | (simp; omega)) _ | refine below_tr (by assumption) ?_ (by first | omega | (simp; done) | (simp; omega)) | fail)))).mono ?_
      rintro e w6 ⟨rfl, rfl⟩
      go_upto_region 7 with fail
      refine name_world ?_
      intro w7 hw7
      have NB7 := Lib.hid (show NoB (.pointer (some ⟨w.heap.size + 1, 0, none⟩)) w7 by rw [hw7]; exact NB5.out.below (by repeat (first | with_reducible exact Below.refl _ _ | with_reducible assumption | with_reducible refine Below.drew ?_ | with_reducible refine below_dN ?_ _ | with_reducible refine Below.setCell ?_ (by first | omega | (simp; done) | (simp; omega)) _ | with_reducible refine below_al ?_ (by first | omega | (simp; done) | (simp; omega)) _ | exact Below.refl _ _ | assumption | refine Below.drew ?_ | refine below_dN ?_ _ | refine Below.setCell ?_ (by first | omega | (simp; done) | (simp; omega)) _ | refine below_al ?_ (by first | omega | (simp; done) | (simp; omega)) _ | refine below_tr (by assumption) ?_ (by first | omega | (simp; done) | (simp; omega)) | fail)))
      have hb7 : Below W.heap.size W w7 := by rw [hw7]; exact HB5.out.alloc hz5 _
      have HB7 := Lib.hid hb7
      have hz7 : W.heap.size ≤ w7.heap.size := hb7.size
      have o1 := (hb7.cell (p := ⟨w.heap.size, 1, none⟩) hlt0).trans W1.out
      have o2 := (hb7.cell (p := ⟨w.heap.size, 2, none⟩) hlt0).trans W2.out
      have o3 := (hb7.cell (p := ⟨w.heap.size, 3, none⟩) hlt0).trans W3.out
      have o4 := (hb7.cell (p := ⟨w.heap.size, 4, none⟩) hlt0).trans W4.out
      have o5 := (hb7.cell (p := ⟨w.heap.size, 5, none⟩) hlt0).trans W5.out
      clear hw7 hb7
      go_quiet ((first
        | (go_at_call 11; exact quiet_sym (nob_11 (.pointer (some ⟨w.heap.size + 1, 0, none⟩)) _ _ _ _ _ _ _ (NB7.out.drewN _)))
        | (go_at_call 16; exact quiet_sym (nob_16 (.pointer (some ⟨w.heap.size + 1, 0, none⟩)) _ _ (NB7.out.drewN _)))
        | (go_at_call 14; exact quiet_sym (nob_14 (.pointer (some ⟨w.heap.size + 1, 0, none⟩)) _ (NB7.out.drewN _)))
        | (go_at_call 13; exact quiet_sym (nob_13 (.pointer (some ⟨w.heap.size + 1, 0, none⟩)) _ (NB7.out.drewN _)))
        | (go_at_call 17; exact quiet_sym (nob_17 (.pointer (some ⟨w.heap.size + 1, 0, none⟩)) _ (NB7.out.drewN _)))
        | (go_at_call 20; exact quiet_sym (nob_20 (.pointer (some ⟨w.heap.size + 1, 0, none⟩)) _ _ (NB7.out.drewN _)))))
      go_wp2
      go_roundw
      case rel => exact ⟨.inr (.inr rfl), below_dN HB7.out _⟩
      case measure => simp [intOf]
    · have HBR := Lib.hid hbr
      clear hbr
      go_wp2_with fail
      refine (awake_s _).mono ?_
      rintro e w2 ⟨rfl, hb2⟩
      go_wp2
      go_ret
      exact ⟨rfl, below_tr (below_tr hb2 HBR.out (Nat.le_refl _)) hB (Nat.le_refl _)⟩
