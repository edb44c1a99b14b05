/- Contracts of layer 11: act. -/
import Derived.Test.YtncmklpnppenmaaJ
namespace Go.Proofs.Ytncmklpnppenmaa.C
open Go.RowKit
set_option linter.unusedVariables false
set_option linter.unusedSimpArgs false
attribute [local go_sem high] max2_mx min2_mn max_two min_two
attribute [local go_sem ↓] Go.wp_at_zero Go.wp_at_succ

theorem Pt.keep {w w' : World} {g h : Nat} {M F Z n : Int} {o : Bool} {q b u : Int} (hp : Pt w g M F Z n o q b u) (hg : w.grownBy w' (some h)) (ne : h ≠ g) : Pt w' g M F Z n o q b u := by
  unfold Pt; rw [hg.block g (Array.getElem?_eq_some_iff.1 hp).1 (by simpa using Ne.symm ne)]; exact hp
theorem Rt.keep {w w' : World} {g h : Nat} {M F Z n : Int} {o : Bool} {q b u : Int} (hp : Rt w g M F Z n o q b u) (hg : w.grownBy w' (some h)) (ne : h ≠ g) : Rt w' g M F Z n o q b u := by
  unfold Rt; rw [hg.block g (Array.getElem?_eq_some_iff.1 hp).1 (by simpa using Ne.symm ne)]; exact hp
theorem Pt.al {w : World} {g : Nat} {M F Z n : Int} {o : Bool} {q b u : Int} (hp : Pt w g M F Z n o q b u) (A : Obj) : Pt (w.alloc A) g M F Z n o q b u := by
  unfold Pt; rw [al_old w A g (Array.getElem?_eq_some_iff.1 hp).1]; exact hp
theorem Rt.al {w : World} {g : Nat} {M F Z n : Int} {o : Bool} {q b u : Int} (hp : Rt w g M F Z n o q b u) (A : Obj) : Rt (w.alloc A) g M F Z n o q b u := by
  unfold Rt; rw [al_old w A g (Array.getElem?_eq_some_iff.1 hp).1]; exact hp
/-- an act's box -/
def Ox (w : World) (B : Nat) (kd N y : Int) : Prop := w.heap[B]? = some (.cells #[.int .i64 kd, .int .i64 N, .int .u32 y] 48 (0, 0))
theorem Ox.keep {w w' : World} {B h : Nat} {kd N y : Int} (hp : Ox w B kd N y) (hg : w.grownBy w' (some h)) (ne : h ≠ B) : Ox w' B kd N y := by
  unfold Ox; rw [hg.block B (Array.getElem?_eq_some_iff.1 hp).1 (by simpa using Ne.symm ne)]; exact hp
theorem Ox.below {w w' : World} {B : Nat} {kd N y : Int} (hp : Ox w B kd N y) (hb : Below w.heap.size w w') : Ox w' B kd N y := by
  unfold Ox; rw [hb.block B (Array.getElem?_eq_some_iff.1 hp).1]; exact hp
theorem Ox.cells {w : World} {B : Nat} {kd N y : Int} (h : Ox w B kd N y) : w.cell? ⟨B, 0, none⟩ = some (.int .i64 kd) ∧ w.cell? ⟨B, 1, none⟩ = some (.int .i64 N) ∧ w.cell? ⟨B, 2, none⟩ = some (.int .u32 y) ∧ B < w.heap.size :=
  ⟨cell_of_row w B 0 _ 48 (0, 0) h, cell_of_row w B 1 _ 48 (0, 0) h, cell_of_row w B 2 _ 48 (0, 0) h, (Array.getElem?_eq_some_iff.1 h).1⟩
theorem ok_fail {M F Z n q b u : Int} (k : Ok M F Z n q b u) : Ok M F Z (failN M n) q b u := by
  have h0 := k.n0
  have h1 := k.n1
  have hr : 0 ≤ failN M n ∧ failN M n ≤ M + 1 := by unfold failN; split <;> omega
  exact { k with n0 := hr.1, n1 := hr.2 }
theorem ok_good {M F Z n q b u : Int} (k : Ok M F Z n q b u) : Ok M F Z 0 q b u := { k with n0 := Int.le_refl _, n1 := by have := k.f0; have := k.f1; omega }
theorem ok_used {M F Z n q b u x : Int} (k : Ok M F Z n q b u) (hx : inB x 0 1099511627776 = true) : Ok M F Z n q b (mx u x) := by
  obtain ⟨x0, x1⟩ := inB_t hx
  have h0 := k.u0
  have h1 := k.u1
  have hr : 0 ≤ mx u x ∧ mx u x ≤ 1099511627776 := by rw [mx_def]; split <;> omega
  exact { k with u0 := hr.1, u1 := hr.2 }
theorem nxt_range (q : Int) : 0 ≤ nxt q ∧ nxt q ≤ 4294967295 := by unfold nxt; rw [IntKind.wrap_u32]; omega
theorem ok_beat {M F Z n q b u x : Int} (k : Ok M F Z n q b u) (hx : inB x 0 1099511627776 = true) : Ok M F Z n (nxt q) x (mx u x) := by
  obtain ⟨x0, x1⟩ := inB_t hx
  exact { ok_used k hx with q0 := (nxt_range q).1, q1 := (nxt_range q).2, b0 := x0, b1 := x1 }
/-- both are in one state, and all that is told is true -/
def Both (B : Nat) (W0 : World) (g h : Nat) (M F Z : Int) (e : Ending) (w' : World) : Prop := ∃ n o q b u, e = .returned (.bool true) ∧ Pt w' g M F Z n o q b u ∧ Rt w' h M F Z n o q b u ∧ Ok M F Z n q b u ∧ Below B W0 w'
set_option maxHeartbeats 4000000 in
set_option maxRecDepth 100000 in
theorem act_fail (B g h : Nat) (M F Z n : Int) (o : Bool) (q b u N y : Int) (W0 w : World) (hp : Pt w g M F Z n o q b u) (hr : Rt w h M F Z n o q b u) (k : Ok M F Z n q b u) (hgh : g ≠ h) (hB : Below B W0 w) (hB0 : B ≤ W0.heap.size) (hg : B ≤ g) (hh : B ≤ h) :
    Calls Try.prog 16 #[.pointer (some ⟨g, 0, none⟩), .pointer (some ⟨h, 0, none⟩), .agg #[.int .i64 1, .int .i64 N, .int .u32 y]] w (Both B W0 g h M F Z) := by
  have hu48 := Try.underlying48
  have hlg := hp.cells.lt
  have hlh := hr.cells.lt
  have HP := Lib.hid hp
  have HR := Lib.hid hr
  have HK := Lib.hid k
  clear hp hr k
  go_enter Try.func16, Try.ntmps16
  go_wp2_with fail
  refine name_world2 ?_
  intro wa hwa
  have HPa := Lib.hid (show Pt wa g M F Z n o q b u by subst hwa; exact HP.out.al _)
  have HRa := Lib.hid (show Rt wa h M F Z n o q b u by subst hwa; exact HR.out.al _)
  have HOa := Lib.hid (show Ox wa w.heap.size 1 N y by subst hwa; exact al_new w _ _ rfl)
  have hBa : Below B W0 wa := by subst hwa; exact below_al hB hB0 _
  clear hwa
  refine (pfail g M F Z n o q b u _ HPa.out HK.out).mono ?_
  rintro e w1 ⟨rfl, h1, g1⟩
  have P1 := Lib.hid h1
  have R1 := Lib.hid (HRa.out.keep g1 hgh)
  have O1 := Lib.hid (HOa.out.keep g1 (by omega))
  have hB1 : Below B W0 w1 := below_grown hBa (Nat.le_trans hB0 hBa.size) hg g1
  clear h1 g1
  obtain ⟨b0, b1, b2, b3⟩ := O1.out.cells
  go_wp2_with fail
  refine (rfail h M F Z n o q b u _ R1.out HK.out).mono ?_
  rintro e w2 ⟨rfl, h2, g2⟩
  have P2 := Lib.hid (P1.out.keep g2 hgh.symm)
  have R2 := Lib.hid h2
  have hB2 : Below B W0 w2 := below_grown hB1 (Nat.le_trans hB0 hB1.size) hh g2
  clear h2 g2
  clear b0 b1 b2 b3
  go_wp2
  go_ret
  exact ⟨failN M n, o, q, b, u, rfl, P2.out, R2.out, ok_fail HK.out, hB2⟩
set_option maxHeartbeats 4000000 in
set_option maxRecDepth 100000 in
theorem act_good (B g h : Nat) (M F Z n : Int) (o : Bool) (q b u N y : Int) (W0 w : World) (hp : Pt w g M F Z n o q b u) (hr : Rt w h M F Z n o q b u) (k : Ok M F Z n q b u) (hgh : g ≠ h) (hB : Below B W0 w) (hB0 : B ≤ W0.heap.size) (hg : B ≤ g) (hh : B ≤ h) :
    Calls Try.prog 16 #[.pointer (some ⟨g, 0, none⟩), .pointer (some ⟨h, 0, none⟩), .agg #[.int .i64 2, .int .i64 N, .int .u32 y]] w (Both B W0 g h M F Z) := by
  have hu48 := Try.underlying48
  have hlg := hp.cells.lt
  have hlh := hr.cells.lt
  have HP := Lib.hid hp
  have HR := Lib.hid hr
  have HK := Lib.hid k
  clear hp hr k
  go_enter Try.func16, Try.ntmps16
  go_wp2_with fail
  refine name_world2 ?_
  intro wa hwa
  have HPa := Lib.hid (show Pt wa g M F Z n o q b u by subst hwa; exact HP.out.al _)
  have HRa := Lib.hid (show Rt wa h M F Z n o q b u by subst hwa; exact HR.out.al _)
  have HOa := Lib.hid (show Ox wa w.heap.size 2 N y by subst hwa; exact al_new w _ _ rfl)
  have hBa : Below B W0 wa := by subst hwa; exact below_al hB hB0 _
  clear hwa
  refine (pgood g M F Z n o q b u _ HPa.out HK.out).mono ?_
  rintro e w1 ⟨rfl, h1, g1⟩
  have P1 := Lib.hid h1
  have R1 := Lib.hid (HRa.out.keep g1 hgh)
  have O1 := Lib.hid (HOa.out.keep g1 (by omega))
  have hB1 : Below B W0 w1 := below_grown hBa (Nat.le_trans hB0 hBa.size) hg g1
  clear h1 g1
  obtain ⟨b0, b1, b2, b3⟩ := O1.out.cells
  go_wp2_with fail
  refine (rgood h M F Z n o q b u _ R1.out).mono ?_
  rintro e w2 ⟨rfl, h2, g2⟩
  have P2 := Lib.hid (P1.out.keep g2 hgh.symm)
  have R2 := Lib.hid h2
  have hB2 : Below B W0 w2 := below_grown hB1 (Nat.le_trans hB0 hB1.size) hh g2
  clear h2 g2
  clear b0 b1 b2 b3
  go_wp2
  go_ret
  exact ⟨0, o, q, b, u, rfl, P2.out, R2.out, ok_good HK.out, hB2⟩
set_option maxHeartbeats 4000000 in
set_option maxRecDepth 100000 in
theorem act_used_t (B g h : Nat) (M F Z n : Int) (o : Bool) (q b u N y : Int) (W0 w : World) (hp : Pt w g M F Z n o q b u) (hr : Rt w h M F Z n o q b u) (k : Ok M F Z n q b u) (hgh : g ≠ h) (hB : Below B W0 w) (hB0 : B ≤ W0.heap.size) (hg : B ≤ g) (hh : B ≤ h) (hx : inB N 0 1099511627776 = true) :
    Calls Try.prog 16 #[.pointer (some ⟨g, 0, none⟩), .pointer (some ⟨h, 0, none⟩), .agg #[.int .i64 3, .int .i64 N, .int .u32 y]] w (Both B W0 g h M F Z) := by
  have hu48 := Try.underlying48
  have hlg := hp.cells.lt
  have hlh := hr.cells.lt
  have HP := Lib.hid hp
  have HR := Lib.hid hr
  have HK := Lib.hid k
  clear hp hr k
  go_enter Try.func16, Try.ntmps16
  go_wp2_with fail
  refine name_world ?_
  intro wa hwa
  have HPa := Lib.hid (show Pt wa g M F Z n o q b u by subst hwa; exact HP.out.al _)
  have HRa := Lib.hid (show Rt wa h M F Z n o q b u by subst hwa; exact HR.out.al _)
  have HOa := Lib.hid (show Ox wa w.heap.size 3 N y by subst hwa; exact al_new w _ _ rfl)
  have hBa : Below B W0 wa := by subst hwa; exact below_al hB hB0 _
  clear hwa
  have sa := HOa.out.cells.2.1
  have SA := Lib.hid sa
  have hla := HOa.out.cells.2.2.2
  go_region_held3 (fun w' => w'.cell? ⟨w.heap.size, 1, none⟩ = some (.int .i64 N)) (first | exact SA.out | (with_reducible assumption)) (first | (go_at_call 21; refine (pused_t g M F Z n o q b u N _ HPa.out.drew hx).mono ?_; rintro e w1 ⟨rfl, h1, g1⟩; have O1 := Lib.hid (Ox.keep (w := wa.drew) HOa.out g1 (by omega)); have s1 := O1.out.cells.2.1; have R1 := Lib.hid (HRa.out.drew.keep g1 hgh); have P1 := Lib.hid h1; have hB1 := below_grown (w := wa.drew) hBa.drew (Nat.le_trans hB0 hBa.size) hg g1; clear h1) | (go_at_call 32; refine (rused_t h M F Z n o q b u N _ R1.out hx).mono ?_; rintro e w2 ⟨rfl, h2, g2⟩; have O2 := Lib.hid (O1.out.keep g2 (by omega)); have s2 := O2.out.cells.2.1; have P2 := Lib.hid (P1.out.keep g2 hgh.symm); have R2 := Lib.hid h2; have hB2 := below_grown hB1 (Nat.le_trans hB0 hB1.size) hh g2; clear h2))
  go_wp2
  go_ret
  exact ⟨n, o, q, b, mx u N, rfl, P2.out, R2.out, ok_used HK.out hx, hB2⟩
set_option maxHeartbeats 4000000 in
set_option maxRecDepth 100000 in
theorem act_used_f (B g h : Nat) (M F Z n : Int) (o : Bool) (q b u N y : Int) (W0 w : World) (hp : Pt w g M F Z n o q b u) (hr : Rt w h M F Z n o q b u) (k : Ok M F Z n q b u) (hgh : g ≠ h) (hB : Below B W0 w) (hB0 : B ≤ W0.heap.size) (hg : B ≤ g) (hh : B ≤ h) (hx : inB N 0 1099511627776 = false) :
    Calls Try.prog 16 #[.pointer (some ⟨g, 0, none⟩), .pointer (some ⟨h, 0, none⟩), .agg #[.int .i64 3, .int .i64 N, .int .u32 y]] w (Both B W0 g h M F Z) := by
  have hu48 := Try.underlying48
  have hlg := hp.cells.lt
  have hlh := hr.cells.lt
  have HP := Lib.hid hp
  have HR := Lib.hid hr
  have HK := Lib.hid k
  clear hp hr k
  go_enter Try.func16, Try.ntmps16
  go_wp2_with fail
  refine name_world ?_
  intro wa hwa
  have HPa := Lib.hid (show Pt wa g M F Z n o q b u by subst hwa; exact HP.out.al _)
  have HRa := Lib.hid (show Rt wa h M F Z n o q b u by subst hwa; exact HR.out.al _)
  have HOa := Lib.hid (show Ox wa w.heap.size 3 N y by subst hwa; exact al_new w _ _ rfl)
  have hBa : Below B W0 wa := by subst hwa; exact below_al hB hB0 _
  clear hwa
  have sa := HOa.out.cells.2.1
  have SA := Lib.hid sa
  have hla := HOa.out.cells.2.2.2
  go_region_held3 (fun w' => w'.cell? ⟨w.heap.size, 1, none⟩ = some (.int .i64 N)) (first | exact SA.out | (with_reducible assumption)) (first | (go_at_call 21; refine (pused_f g M F Z n o q b u N _ HPa.out.drew hx).mono ?_; rintro e w1 ⟨rfl, h1, g1⟩; have O1 := Lib.hid (Ox.keep (w := wa.drew) HOa.out g1 (by omega)); have s1 := O1.out.cells.2.1; have R1 := Lib.hid (HRa.out.drew.keep g1 hgh); have P1 := Lib.hid h1; have hB1 := below_grown (w := wa.drew) hBa.drew (Nat.le_trans hB0 hBa.size) hg g1; clear h1) | (go_at_call 32; refine (rused_f h M F Z n o q b u N _ R1.out hx).mono ?_; rintro e w2 ⟨rfl, h2, g2⟩; have O2 := Lib.hid (O1.out.keep g2 (by omega)); have s2 := O2.out.cells.2.1; have P2 := Lib.hid (P1.out.keep g2 hgh.symm); have R2 := Lib.hid h2; have hB2 := below_grown hB1 (Nat.le_trans hB0 hB1.size) hh g2; clear h2))
  go_wp2
  go_ret
  exact ⟨n, o, q, b, u, rfl, P2.out, R2.out, HK.out, hB2⟩
set_option maxHeartbeats 4000000 in
set_option maxRecDepth 100000 in
theorem act_ask_t (B g h : Nat) (M F Z n : Int) (o : Bool) (q b u N y : Int) (W0 w : World) (hp : Pt w g M F Z n o q b u) (hr : Rt w h M F Z n o q b u) (k : Ok M F Z n q b u) (hgh : g ≠ h) (hB : Below B W0 w) (hB0 : B ≤ W0.heap.size) (hg : B ≤ g) (hh : B ≤ h) (hx : inB N 1 2147483648 = true) :
    Calls Try.prog 16 #[.pointer (some ⟨g, 0, none⟩), .pointer (some ⟨h, 0, none⟩), .agg #[.int .i64 4, .int .i64 N, .int .u32 y]] w (Both B W0 g h M F Z) := by
  have hu48 := Try.underlying48
  have hlg := hp.cells.lt
  have hlh := hr.cells.lt
  have HP := Lib.hid hp
  have HR := Lib.hid hr
  have HK := Lib.hid k
  clear hp hr k
  go_enter Try.func16, Try.ntmps16
  go_wp2_with fail
  refine name_world2 ?_
  intro wa hwa
  have HPa := Lib.hid (show Pt wa g M F Z n o q b u by subst hwa; exact HP.out.al _)
  have HRa := Lib.hid (show Rt wa h M F Z n o q b u by subst hwa; exact HR.out.al _)
  have HOa := Lib.hid (show Ox wa w.heap.size 4 N y by subst hwa; exact al_new w _ _ rfl)
  have hBa : Below B W0 wa := by subst hwa; exact below_al hB hB0 _
  clear hwa
  refine (pask_t g M F Z n o q b u N _ HPa.out HK.out hx).mono ?_
  rintro e w1 ⟨rfl, hb1⟩
  have P1 := Lib.hid (HPa.out.below hb1)
  have R1 := Lib.hid (HRa.out.below hb1)
  have O1 := Lib.hid (HOa.out.below hb1)
  have hB1 : Below B W0 w1 := below_tr (hb1) hBa hB0
  clear hb1
  obtain ⟨b0, b1, b2, b3⟩ := O1.out.cells
  go_wp2_with fail
  refine (rask_t h M F Z n o q b u N _ R1.out HK.out hx).mono ?_
  rintro e w2 ⟨rfl, hb2⟩
  have P2 := Lib.hid (P1.out.below hb2)
  have R2 := Lib.hid (R1.out.below hb2)
  have hB2 : Below B W0 w2 := below_tr hb2 hB1 hB0
  clear hb2
  clear b0 b1 b2 b3
  go_wp2
  go_ret
  exact ⟨n, o, q, b, u, rfl, P2.out, R2.out, HK.out, hB2⟩
set_option maxHeartbeats 4000000 in
set_option maxRecDepth 100000 in
theorem act_ask_f (B g h : Nat) (M F Z n : Int) (o : Bool) (q b u N y : Int) (W0 w : World) (hp : Pt w g M F Z n o q b u) (hr : Rt w h M F Z n o q b u) (k : Ok M F Z n q b u) (hgh : g ≠ h) (hB : Below B W0 w) (hB0 : B ≤ W0.heap.size) (hg : B ≤ g) (hh : B ≤ h) (hx : inB N 1 2147483648 = false) :
    Calls Try.prog 16 #[.pointer (some ⟨g, 0, none⟩), .pointer (some ⟨h, 0, none⟩), .agg #[.int .i64 4, .int .i64 N, .int .u32 y]] w (Both B W0 g h M F Z) := by
  have hu48 := Try.underlying48
  have hlg := hp.cells.lt
  have hlh := hr.cells.lt
  have HP := Lib.hid hp
  have HR := Lib.hid hr
  have HK := Lib.hid k
  clear hp hr k
  go_enter Try.func16, Try.ntmps16
  go_wp2_with fail
  refine name_world2 ?_
  intro wa hwa
  have HPa := Lib.hid (show Pt wa g M F Z n o q b u by subst hwa; exact HP.out.al _)
  have HRa := Lib.hid (show Rt wa h M F Z n o q b u by subst hwa; exact HR.out.al _)
  have HOa := Lib.hid (show Ox wa w.heap.size 4 N y by subst hwa; exact al_new w _ _ rfl)
  have hBa : Below B W0 wa := by subst hwa; exact below_al hB hB0 _
  clear hwa
  refine (pask_f g M F Z n o q b u N _ HPa.out hx).mono ?_
  rintro e w1 ⟨rfl, hb1⟩
  have P1 := Lib.hid (HPa.out.below hb1)
  have R1 := Lib.hid (HRa.out.below hb1)
  have O1 := Lib.hid (HOa.out.below hb1)
  have hB1 : Below B W0 w1 := below_tr (hb1) hBa hB0
  clear hb1
  obtain ⟨b0, b1, b2, b3⟩ := O1.out.cells
  go_wp2_with fail
  refine (rask_f h M F Z n o q b u N _ R1.out hx).mono ?_
  rintro e w2 ⟨rfl, hb2⟩
  have P2 := Lib.hid (P1.out.below hb2)
  have R2 := Lib.hid (R1.out.below hb2)
  have hB2 : Below B W0 w2 := below_tr hb2 hB1 hB0
  clear hb2
  clear b0 b1 b2 b3
  go_wp2
  go_ret
  exact ⟨n, o, q, b, u, rfl, P2.out, R2.out, HK.out, hB2⟩
set_option maxHeartbeats 4000000 in
set_option maxRecDepth 100000 in
theorem act_beat_t (B g h : Nat) (M F Z n : Int) (q b u N y : Int) (W0 w : World) (hp : Pt w g M F Z n false q b u) (hr : Rt w h M F Z n false q b u) (k : Ok M F Z n q b u) (hgh : g ≠ h) (hB : Below B W0 w) (hB0 : B ≤ W0.heap.size) (hg : B ≤ g) (hh : B ≤ h) (hx : inB N 0 1099511627776 = true) :
    Calls Try.prog 16 #[.pointer (some ⟨g, 0, none⟩), .pointer (some ⟨h, 0, none⟩), .agg #[.int .i64 5, .int .i64 N, .int .u32 y]] w (Both B W0 g h M F Z) := by
  have hu48 := Try.underlying48
  have hlg := hp.cells.lt
  have hlh := hr.cells.lt
  have HP := Lib.hid hp
  have HR := Lib.hid hr
  have HK := Lib.hid k
  clear hp hr k
  go_enter Try.func16, Try.ntmps16
  go_wp2_with fail
  refine name_world2 ?_
  intro wa hwa
  have HPa := Lib.hid (show Pt wa g M F Z n false q b u by subst hwa; exact HP.out.al _)
  have HRa := Lib.hid (show Rt wa h M F Z n false q b u by subst hwa; exact HR.out.al _)
  have HOa := Lib.hid (show Ox wa w.heap.size 5 N y by subst hwa; exact al_new w _ _ rfl)
  have hBa : Below B W0 wa := by subst hwa; exact below_al hB hB0 _
  clear hwa
  refine (pbeat_t g M F Z n false q b u N _ HPa.out hx rfl HK.out).mono ?_
  rintro e w1 ⟨rfl, h1, g1⟩
  have P1 := Lib.hid h1
  have R1 := Lib.hid (HRa.out.keep g1 hgh)
  have O1 := Lib.hid (HOa.out.keep g1 (by omega))
  have hB1 : Below B W0 w1 := below_grown hBa (Nat.le_trans hB0 hBa.size) hg g1
  clear h1 g1
  obtain ⟨b0, b1, b2, b3⟩ := O1.out.cells
  go_wp2_with fail
  refine (rbeat_t h M F Z n false q b u N _ R1.out hx rfl HK.out).mono ?_
  rintro e w2 ⟨rfl, h2, g2⟩
  have P2 := Lib.hid (P1.out.keep g2 hgh.symm)
  have R2 := Lib.hid h2
  have hB2 : Below B W0 w2 := below_grown hB1 (Nat.le_trans hB0 hB1.size) hh g2
  clear h2 g2
  clear b0 b1 b2 b3
  go_wp2
  go_ret
  exact ⟨n, true, nxt q, N, mx u N, rfl, P2.out, R2.out, ok_beat HK.out hx, hB2⟩
set_option maxHeartbeats 4000000 in
set_option maxRecDepth 100000 in
theorem act_beat_o (B g h : Nat) (M F Z n : Int) (q b u N y : Int) (W0 w : World) (hp : Pt w g M F Z n true q b u) (hr : Rt w h M F Z n true q b u) (k : Ok M F Z n q b u) (hgh : g ≠ h) (hB : Below B W0 w) (hB0 : B ≤ W0.heap.size) (hg : B ≤ g) (hh : B ≤ h) (hx : inB N 0 1099511627776 = true) :
    Calls Try.prog 16 #[.pointer (some ⟨g, 0, none⟩), .pointer (some ⟨h, 0, none⟩), .agg #[.int .i64 5, .int .i64 N, .int .u32 y]] w (Both B W0 g h M F Z) := by
  have hu48 := Try.underlying48
  have hlg := hp.cells.lt
  have hlh := hr.cells.lt
  have HP := Lib.hid hp
  have HR := Lib.hid hr
  have HK := Lib.hid k
  clear hp hr k
  go_enter Try.func16, Try.ntmps16
  go_wp2_with fail
  refine name_world2 ?_
  intro wa hwa
  have HPa := Lib.hid (show Pt wa g M F Z n true q b u by subst hwa; exact HP.out.al _)
  have HRa := Lib.hid (show Rt wa h M F Z n true q b u by subst hwa; exact HR.out.al _)
  have HOa := Lib.hid (show Ox wa w.heap.size 5 N y by subst hwa; exact al_new w _ _ rfl)
  have hBa : Below B W0 wa := by subst hwa; exact below_al hB hB0 _
  clear hwa
  refine (pbeat_o g M F Z n true q b u N _ HPa.out hx rfl).mono ?_
  rintro e w1 ⟨rfl, h1, g1⟩
  have P1 := Lib.hid h1
  have R1 := Lib.hid (HRa.out.keep g1 hgh)
  have O1 := Lib.hid (HOa.out.keep g1 (by omega))
  have hB1 : Below B W0 w1 := below_grown hBa (Nat.le_trans hB0 hBa.size) hg g1
  clear h1 g1
  obtain ⟨b0, b1, b2, b3⟩ := O1.out.cells
  go_wp2_with fail
  refine (rbeat_o h M F Z n true q b u N _ R1.out hx rfl).mono ?_
  rintro e w2 ⟨rfl, h2, g2⟩
  have P2 := Lib.hid (P1.out.keep g2 hgh.symm)
  have R2 := Lib.hid h2
  have hB2 : Below B W0 w2 := below_grown hB1 (Nat.le_trans hB0 hB1.size) hh g2
  clear h2 g2
  clear b0 b1 b2 b3
  go_wp2
  go_ret
  exact ⟨n, true, q, b, u, rfl, P2.out, R2.out, HK.out, hB2⟩
set_option maxHeartbeats 4000000 in
set_option maxRecDepth 100000 in
theorem act_beat_f (B g h : Nat) (M F Z n : Int) (o : Bool) (q b u N y : Int) (W0 w : World) (hp : Pt w g M F Z n o q b u) (hr : Rt w h M F Z n o q b u) (k : Ok M F Z n q b u) (hgh : g ≠ h) (hB : Below B W0 w) (hB0 : B ≤ W0.heap.size) (hg : B ≤ g) (hh : B ≤ h) (hx : inB N 0 1099511627776 = false) :
    Calls Try.prog 16 #[.pointer (some ⟨g, 0, none⟩), .pointer (some ⟨h, 0, none⟩), .agg #[.int .i64 5, .int .i64 N, .int .u32 y]] w (Both B W0 g h M F Z) := by
  have hu48 := Try.underlying48
  have hlg := hp.cells.lt
  have hlh := hr.cells.lt
  have HP := Lib.hid hp
  have HR := Lib.hid hr
  have HK := Lib.hid k
  clear hp hr k
  go_enter Try.func16, Try.ntmps16
  go_wp2_with fail
  refine name_world2 ?_
  intro wa hwa
  have HPa := Lib.hid (show Pt wa g M F Z n o q b u by subst hwa; exact HP.out.al _)
  have HRa := Lib.hid (show Rt wa h M F Z n o q b u by subst hwa; exact HR.out.al _)
  have HOa := Lib.hid (show Ox wa w.heap.size 5 N y by subst hwa; exact al_new w _ _ rfl)
  have hBa : Below B W0 wa := by subst hwa; exact below_al hB hB0 _
  clear hwa
  refine (pbeat_f g M F Z n o q b u N _ HPa.out hx).mono ?_
  rintro e w1 ⟨rfl, h1, g1⟩
  have P1 := Lib.hid h1
  have R1 := Lib.hid (HRa.out.keep g1 hgh)
  have O1 := Lib.hid (HOa.out.keep g1 (by omega))
  have hB1 : Below B W0 w1 := below_grown hBa (Nat.le_trans hB0 hBa.size) hg g1
  clear h1 g1
  obtain ⟨b0, b1, b2, b3⟩ := O1.out.cells
  go_wp2_with fail
  refine (rbeat_f h M F Z n o q b u N _ R1.out hx).mono ?_
  rintro e w2 ⟨rfl, h2, g2⟩
  have P2 := Lib.hid (P1.out.keep g2 hgh.symm)
  have R2 := Lib.hid h2
  have hB2 : Below B W0 w2 := below_grown hB1 (Nat.le_trans hB0 hB1.size) hh g2
  clear h2 g2
  clear b0 b1 b2 b3
  go_wp2
  go_ret
  exact ⟨n, o, q, b, u, rfl, P2.out, R2.out, HK.out, hB2⟩
set_option maxHeartbeats 4000000 in
set_option maxRecDepth 100000 in
theorem act_heard_f (B g h : Nat) (M F Z n : Int) (o : Bool) (q b u N y : Int) (W0 w : World) (hp : Pt w g M F Z n o q b u) (hr : Rt w h M F Z n o q b u) (k : Ok M F Z n q b u) (hgh : g ≠ h) (hB : Below B W0 w) (hB0 : B ≤ W0.heap.size) (hg : B ≤ g) (hh : B ≤ h) (hx : inB N 0 1099511627776 = false) :
    Calls Try.prog 16 #[.pointer (some ⟨g, 0, none⟩), .pointer (some ⟨h, 0, none⟩), .agg #[.int .i64 6, .int .i64 N, .int .u32 y]] w (Both B W0 g h M F Z) := by
  have hu48 := Try.underlying48
  have hlg := hp.cells.lt
  have hlh := hr.cells.lt
  have HP := Lib.hid hp
  have HR := Lib.hid hr
  have HK := Lib.hid k
  clear hp hr k
  go_enter Try.func16, Try.ntmps16
  go_wp2_with fail
  refine name_world2 ?_
  intro wa hwa
  have HPa := Lib.hid (show Pt wa g M F Z n o q b u by subst hwa; exact HP.out.al _)
  have HRa := Lib.hid (show Rt wa h M F Z n o q b u by subst hwa; exact HR.out.al _)
  have HOa := Lib.hid (show Ox wa w.heap.size 6 N y by subst hwa; exact al_new w _ _ rfl)
  have hBa : Below B W0 wa := by subst hwa; exact below_al hB hB0 _
  clear hwa
  refine (pheard_f g M F Z n o q b u y N _ HPa.out hx).mono ?_
  rintro e w1 ⟨rfl, h1, g1⟩
  have P1 := Lib.hid h1
  have R1 := Lib.hid (HRa.out.keep g1 hgh)
  have O1 := Lib.hid (HOa.out.keep g1 (by omega))
  have hB1 : Below B W0 w1 := below_grown hBa (Nat.le_trans hB0 hBa.size) hg g1
  clear h1 g1
  obtain ⟨b0, b1, b2, b3⟩ := O1.out.cells
  go_wp2_with fail
  refine (rheard_f h M F Z n o q b u y N _ R1.out hx).mono ?_
  rintro e w2 ⟨rfl, h2, g2⟩
  have P2 := Lib.hid (P1.out.keep g2 hgh.symm)
  have R2 := Lib.hid h2
  have hB2 : Below B W0 w2 := below_grown hB1 (Nat.le_trans hB0 hB1.size) hh g2
  clear h2 g2
  clear b0 b1 b2 b3
  go_wp2
  go_ret
  exact ⟨n, o, q, b, u, rfl, P2.out, R2.out, HK.out, hB2⟩
set_option maxHeartbeats 4000000 in
set_option maxRecDepth 100000 in
theorem act_heard_n (B g h : Nat) (M F Z n : Int) (q b u N y : Int) (W0 w : World) (hp : Pt w g M F Z n false q b u) (hr : Rt w h M F Z n false q b u) (k : Ok M F Z n q b u) (hgh : g ≠ h) (hB : Below B W0 w) (hB0 : B ≤ W0.heap.size) (hg : B ≤ g) (hh : B ≤ h) (hx : inB N 0 1099511627776 = true) :
    Calls Try.prog 16 #[.pointer (some ⟨g, 0, none⟩), .pointer (some ⟨h, 0, none⟩), .agg #[.int .i64 6, .int .i64 N, .int .u32 y]] w (Both B W0 g h M F Z) := by
  have hu48 := Try.underlying48
  have hlg := hp.cells.lt
  have hlh := hr.cells.lt
  have HP := Lib.hid hp
  have HR := Lib.hid hr
  have HK := Lib.hid k
  clear hp hr k
  go_enter Try.func16, Try.ntmps16
  go_wp2_with fail
  refine name_world2 ?_
  intro wa hwa
  have HPa := Lib.hid (show Pt wa g M F Z n false q b u by subst hwa; exact HP.out.al _)
  have HRa := Lib.hid (show Rt wa h M F Z n false q b u by subst hwa; exact HR.out.al _)
  have HOa := Lib.hid (show Ox wa w.heap.size 6 N y by subst hwa; exact al_new w _ _ rfl)
  have hBa : Below B W0 wa := by subst hwa; exact below_al hB hB0 _
  clear hwa
  refine (pheard_n g M F Z n false q b u y N _ HPa.out hx rfl).mono ?_
  rintro e w1 ⟨rfl, h1, g1⟩
  have P1 := Lib.hid h1
  have R1 := Lib.hid (HRa.out.keep g1 hgh)
  have O1 := Lib.hid (HOa.out.keep g1 (by omega))
  have hB1 : Below B W0 w1 := below_grown hBa (Nat.le_trans hB0 hBa.size) hg g1
  clear h1 g1
  obtain ⟨b0, b1, b2, b3⟩ := O1.out.cells
  go_wp2_with fail
  refine (rheard_n h M F Z n false q b u y N _ R1.out hx rfl).mono ?_
  rintro e w2 ⟨rfl, h2, g2⟩
  have P2 := Lib.hid (P1.out.keep g2 hgh.symm)
  have R2 := Lib.hid h2
  have hB2 : Below B W0 w2 := below_grown hB1 (Nat.le_trans hB0 hB1.size) hh g2
  clear h2 g2
  clear b0 b1 b2 b3
  go_wp2
  go_ret
  exact ⟨n, false, q, b, u, rfl, P2.out, R2.out, HK.out, hB2⟩
set_option maxHeartbeats 4000000 in
set_option maxRecDepth 100000 in
theorem act_heard_q (B g h : Nat) (M F Z n : Int) (q b u N y : Int) (W0 w : World) (hp : Pt w g M F Z n true q b u) (hr : Rt w h M F Z n true q b u) (k : Ok M F Z n q b u) (hgh : g ≠ h) (hB : Below B W0 w) (hB0 : B ≤ W0.heap.size) (hg : B ≤ g) (hh : B ≤ h) (hx : inB N 0 1099511627776 = true) (hq : (q != y) = true) (hq' : (y != q) = true) :
    Calls Try.prog 16 #[.pointer (some ⟨g, 0, none⟩), .pointer (some ⟨h, 0, none⟩), .agg #[.int .i64 6, .int .i64 N, .int .u32 y]] w (Both B W0 g h M F Z) := by
  have hu48 := Try.underlying48
  have hlg := hp.cells.lt
  have hlh := hr.cells.lt
  have HP := Lib.hid hp
  have HR := Lib.hid hr
  have HK := Lib.hid k
  clear hp hr k
  go_enter Try.func16, Try.ntmps16
  go_wp2_with fail
  refine name_world2 ?_
  intro wa hwa
  have HPa := Lib.hid (show Pt wa g M F Z n true q b u by subst hwa; exact HP.out.al _)
  have HRa := Lib.hid (show Rt wa h M F Z n true q b u by subst hwa; exact HR.out.al _)
  have HOa := Lib.hid (show Ox wa w.heap.size 6 N y by subst hwa; exact al_new w _ _ rfl)
  have hBa : Below B W0 wa := by subst hwa; exact below_al hB hB0 _
  clear hwa
  refine (pheard_q g M F Z n true q b u y N _ HPa.out hx rfl hq).mono ?_
  rintro e w1 ⟨rfl, h1, g1⟩
  have P1 := Lib.hid h1
  have R1 := Lib.hid (HRa.out.keep g1 hgh)
  have O1 := Lib.hid (HOa.out.keep g1 (by omega))
  have hB1 : Below B W0 w1 := below_grown hBa (Nat.le_trans hB0 hBa.size) hg g1
  clear h1 g1
  obtain ⟨b0, b1, b2, b3⟩ := O1.out.cells
  go_wp2_with fail
  refine (rheard_q h M F Z n true q b u y N _ R1.out hx rfl hq').mono ?_
  rintro e w2 ⟨rfl, h2, g2⟩
  have P2 := Lib.hid (P1.out.keep g2 hgh.symm)
  have R2 := Lib.hid h2
  have hB2 : Below B W0 w2 := below_grown hB1 (Nat.le_trans hB0 hB1.size) hh g2
  clear h2 g2
  clear b0 b1 b2 b3
  go_wp2
  go_ret
  exact ⟨n, true, q, b, u, rfl, P2.out, R2.out, HK.out, hB2⟩
set_option maxHeartbeats 4000000 in
set_option maxRecDepth 100000 in
theorem act_heard_b (B g h : Nat) (M F Z n : Int) (q b u N y : Int) (W0 w : World) (hp : Pt w g M F Z n true q b u) (hr : Rt w h M F Z n true q b u) (k : Ok M F Z n q b u) (hgh : g ≠ h) (hB : Below B W0 w) (hB0 : B ≤ W0.heap.size) (hg : B ≤ g) (hh : B ≤ h) (hx : inB N 0 1099511627776 = true) (hq : (q != y) = false) (hq' : (y != q) = false) (hb : N < b) :
    Calls Try.prog 16 #[.pointer (some ⟨g, 0, none⟩), .pointer (some ⟨h, 0, none⟩), .agg #[.int .i64 6, .int .i64 N, .int .u32 y]] w (Both B W0 g h M F Z) := by
  have hu48 := Try.underlying48
  have hlg := hp.cells.lt
  have hlh := hr.cells.lt
  have HP := Lib.hid hp
  have HR := Lib.hid hr
  have HK := Lib.hid k
  clear hp hr k
  go_enter Try.func16, Try.ntmps16
  go_wp2_with fail
  refine name_world2 ?_
  intro wa hwa
  have HPa := Lib.hid (show Pt wa g M F Z n true q b u by subst hwa; exact HP.out.al _)
  have HRa := Lib.hid (show Rt wa h M F Z n true q b u by subst hwa; exact HR.out.al _)
  have HOa := Lib.hid (show Ox wa w.heap.size 6 N y by subst hwa; exact al_new w _ _ rfl)
  have hBa : Below B W0 wa := by subst hwa; exact below_al hB hB0 _
  clear hwa
  refine (pheard_b g M F Z n true q b u y N _ HPa.out hx rfl hq hb).mono ?_
  rintro e w1 ⟨rfl, h1, g1⟩
  have P1 := Lib.hid h1
  have R1 := Lib.hid (HRa.out.keep g1 hgh)
  have O1 := Lib.hid (HOa.out.keep g1 (by omega))
  have hB1 : Below B W0 w1 := below_grown hBa (Nat.le_trans hB0 hBa.size) hg g1
  clear h1 g1
  obtain ⟨b0, b1, b2, b3⟩ := O1.out.cells
  go_wp2_with fail
  refine (rheard_b h M F Z n true q b u y N _ R1.out hx rfl hq' hb).mono ?_
  rintro e w2 ⟨rfl, h2, g2⟩
  have P2 := Lib.hid (P1.out.keep g2 hgh.symm)
  have R2 := Lib.hid h2
  have hB2 : Below B W0 w2 := below_grown hB1 (Nat.le_trans hB0 hB1.size) hh g2
  clear h2 g2
  clear b0 b1 b2 b3
  go_wp2
  go_ret
  exact ⟨n, true, q, b, u, rfl, P2.out, R2.out, HK.out, hB2⟩
set_option maxHeartbeats 4000000 in
set_option maxRecDepth 100000 in
theorem act_heard_t (B g h : Nat) (M F Z n : Int) (q b u N y : Int) (W0 w : World) (hp : Pt w g M F Z n true q b u) (hr : Rt w h M F Z n true q b u) (k : Ok M F Z n q b u) (hgh : g ≠ h) (hB : Below B W0 w) (hB0 : B ≤ W0.heap.size) (hg : B ≤ g) (hh : B ≤ h) (hx : inB N 0 1099511627776 = true) (hq : (q != y) = false) (hq' : (y != q) = false) (hb : b ≤ N) :
    Calls Try.prog 16 #[.pointer (some ⟨g, 0, none⟩), .pointer (some ⟨h, 0, none⟩), .agg #[.int .i64 6, .int .i64 N, .int .u32 y]] w (Both B W0 g h M F Z) := by
  have hu48 := Try.underlying48
  have hlg := hp.cells.lt
  have hlh := hr.cells.lt
  have HP := Lib.hid hp
  have HR := Lib.hid hr
  have HK := Lib.hid k
  clear hp hr k
  go_enter Try.func16, Try.ntmps16
  go_wp2_with fail
  refine name_world2 ?_
  intro wa hwa
  have HPa := Lib.hid (show Pt wa g M F Z n true q b u by subst hwa; exact HP.out.al _)
  have HRa := Lib.hid (show Rt wa h M F Z n true q b u by subst hwa; exact HR.out.al _)
  have HOa := Lib.hid (show Ox wa w.heap.size 6 N y by subst hwa; exact al_new w _ _ rfl)
  have hBa : Below B W0 wa := by subst hwa; exact below_al hB hB0 _
  clear hwa
  refine (pheard_t g M F Z n true q b u y N _ HPa.out hx rfl hq hb HK.out).mono ?_
  rintro e w1 ⟨rfl, h1, g1⟩
  have P1 := Lib.hid h1
  have R1 := Lib.hid (HRa.out.keep g1 hgh)
  have O1 := Lib.hid (HOa.out.keep g1 (by omega))
  have hB1 : Below B W0 w1 := below_grown hBa (Nat.le_trans hB0 hBa.size) hg g1
  clear h1 g1
  obtain ⟨b0, b1, b2, b3⟩ := O1.out.cells
  go_wp2_with fail
  refine (rheard_t h M F Z n true q b u y N _ R1.out hx rfl hq' hb HK.out).mono ?_
  rintro e w2 ⟨rfl, h2, g2⟩
  have P2 := Lib.hid (P1.out.keep g2 hgh.symm)
  have R2 := Lib.hid h2
  have hB2 : Below B W0 w2 := below_grown hB1 (Nat.le_trans hB0 hB1.size) hh g2
  clear h2 g2
  clear b0 b1 b2 b3
  go_wp2
  go_ret
  exact ⟨0, false, q, b, u, rfl, P2.out, R2.out, ok_good HK.out, hB2⟩
set_option maxHeartbeats 4000000 in
set_option maxRecDepth 100000 in
theorem act_missed_n (B g h : Nat) (M F Z n : Int) (q b u N y : Int) (W0 w : World) (hp : Pt w g M F Z n false q b u) (hr : Rt w h M F Z n false q b u) (k : Ok M F Z n q b u) (hgh : g ≠ h) (hB : Below B W0 w) (hB0 : B ≤ W0.heap.size) (hg : B ≤ g) (hh : B ≤ h) :
    Calls Try.prog 16 #[.pointer (some ⟨g, 0, none⟩), .pointer (some ⟨h, 0, none⟩), .agg #[.int .i64 7, .int .i64 N, .int .u32 y]] w (Both B W0 g h M F Z) := by
  have hu48 := Try.underlying48
  have hlg := hp.cells.lt
  have hlh := hr.cells.lt
  have HP := Lib.hid hp
  have HR := Lib.hid hr
  have HK := Lib.hid k
  clear hp hr k
  go_enter Try.func16, Try.ntmps16
  go_wp2_with fail
  refine name_world2 ?_
  intro wa hwa
  have HPa := Lib.hid (show Pt wa g M F Z n false q b u by subst hwa; exact HP.out.al _)
  have HRa := Lib.hid (show Rt wa h M F Z n false q b u by subst hwa; exact HR.out.al _)
  have HOa := Lib.hid (show Ox wa w.heap.size 7 N y by subst hwa; exact al_new w _ _ rfl)
  have hBa : Below B W0 wa := by subst hwa; exact below_al hB hB0 _
  clear hwa
  refine (pmissed_n g M F Z n false q b u _ HPa.out rfl).mono ?_
  rintro e w1 ⟨rfl, h1, g1⟩
  have P1 := Lib.hid h1
  have R1 := Lib.hid (HRa.out.keep g1 hgh)
  have O1 := Lib.hid (HOa.out.keep g1 (by omega))
  have hB1 : Below B W0 w1 := below_grown hBa (Nat.le_trans hB0 hBa.size) hg g1
  clear h1 g1
  obtain ⟨b0, b1, b2, b3⟩ := O1.out.cells
  go_wp2_with fail
  refine (rmissed_n h M F Z n false q b u _ R1.out rfl).mono ?_
  rintro e w2 ⟨rfl, h2, g2⟩
  have P2 := Lib.hid (P1.out.keep g2 hgh.symm)
  have R2 := Lib.hid h2
  have hB2 : Below B W0 w2 := below_grown hB1 (Nat.le_trans hB0 hB1.size) hh g2
  clear h2 g2
  clear b0 b1 b2 b3
  go_wp2
  go_ret
  exact ⟨n, false, q, b, u, rfl, P2.out, R2.out, HK.out, hB2⟩
set_option maxHeartbeats 4000000 in
set_option maxRecDepth 100000 in
theorem act_missed_t (B g h : Nat) (M F Z n : Int) (q b u N y : Int) (W0 w : World) (hp : Pt w g M F Z n true q b u) (hr : Rt w h M F Z n true q b u) (k : Ok M F Z n q b u) (hgh : g ≠ h) (hB : Below B W0 w) (hB0 : B ≤ W0.heap.size) (hg : B ≤ g) (hh : B ≤ h) :
    Calls Try.prog 16 #[.pointer (some ⟨g, 0, none⟩), .pointer (some ⟨h, 0, none⟩), .agg #[.int .i64 7, .int .i64 N, .int .u32 y]] w (Both B W0 g h M F Z) := by
  have hu48 := Try.underlying48
  have hlg := hp.cells.lt
  have hlh := hr.cells.lt
  have HP := Lib.hid hp
  have HR := Lib.hid hr
  have HK := Lib.hid k
  clear hp hr k
  go_enter Try.func16, Try.ntmps16
  go_wp2_with fail
  refine name_world2 ?_
  intro wa hwa
  have HPa := Lib.hid (show Pt wa g M F Z n true q b u by subst hwa; exact HP.out.al _)
  have HRa := Lib.hid (show Rt wa h M F Z n true q b u by subst hwa; exact HR.out.al _)
  have HOa := Lib.hid (show Ox wa w.heap.size 7 N y by subst hwa; exact al_new w _ _ rfl)
  have hBa : Below B W0 wa := by subst hwa; exact below_al hB hB0 _
  clear hwa
  refine (pmissed_t g M F Z n true q b u _ HPa.out rfl HK.out).mono ?_
  rintro e w1 ⟨rfl, h1, g1⟩
  have P1 := Lib.hid h1
  have R1 := Lib.hid (HRa.out.keep g1 hgh)
  have O1 := Lib.hid (HOa.out.keep g1 (by omega))
  have hB1 : Below B W0 w1 := below_grown hBa (Nat.le_trans hB0 hBa.size) hg g1
  clear h1 g1
  obtain ⟨b0, b1, b2, b3⟩ := O1.out.cells
  go_wp2_with fail
  refine (rmissed_t h M F Z n true q b u _ R1.out rfl HK.out).mono ?_
  rintro e w2 ⟨rfl, h2, g2⟩
  have P2 := Lib.hid (P1.out.keep g2 hgh.symm)
  have R2 := Lib.hid h2
  have hB2 : Below B W0 w2 := below_grown hB1 (Nat.le_trans hB0 hB1.size) hh g2
  clear h2 g2
  clear b0 b1 b2 b3
  go_wp2
  go_ret
  exact ⟨failN M n, false, q, b, u, rfl, P2.out, R2.out, ok_fail HK.out, hB2⟩
set_option maxHeartbeats 4000000 in
set_option maxRecDepth 100000 in
theorem act_none (B g h : Nat) (M F Z n : Int) (o : Bool) (q b u kd N y : Int) (W0 w : World) (hp : Pt w g M F Z n o q b u) (hr : Rt w h M F Z n o q b u) (k : Ok M F Z n q b u) (hgh : g ≠ h) (hB : Below B W0 w) (hB0 : B ≤ W0.heap.size) (hg : B ≤ g) (hh : B ≤ h) (hk1 : (kd == 1) = false) (hk2 : (kd == 2) = false) (hk3 : (kd == 3) = false) (hk4 : (kd == 4) = false) (hk5 : (kd == 5) = false) (hk6 : (kd == 6) = false) (hk7 : (kd == 7) = false) :
    Calls Try.prog 16 #[.pointer (some ⟨g, 0, none⟩), .pointer (some ⟨h, 0, none⟩), .agg #[.int .i64 kd, .int .i64 N, .int .u32 y]] w (Both B W0 g h M F Z) := by
  have hu48 := Try.underlying48
  have hlg := hp.cells.lt
  have hlh := hr.cells.lt
  have HP := Lib.hid hp
  have HR := Lib.hid hr
  have HK := Lib.hid k
  clear hp hr k
  go_enter Try.func16, Try.ntmps16
  go_wp2
  go_ret
  exact ⟨n, o, q, b, u, rfl, HP.out.al _, HR.out.al _, HK.out, below_al hB hB0 _⟩
theorem act (B g h : Nat) (M F Z n : Int) (o : Bool) (q b u kd N y : Int) (W0 w : World) (hp : Pt w g M F Z n o q b u) (hr : Rt w h M F Z n o q b u) (k : Ok M F Z n q b u) (hgh : g ≠ h) (hB : Below B W0 w) (hB0 : B ≤ W0.heap.size) (hg : B ≤ g) (hh : B ≤ h) :
    Calls Try.prog 16 #[.pointer (some ⟨g, 0, none⟩), .pointer (some ⟨h, 0, none⟩), .agg #[.int .i64 kd, .int .i64 N, .int .u32 y]] w (Both B W0 g h M F Z) := by
  by_cases k1 : kd = 1
  · subst k1; exact act_fail B g h M F Z n o q b u N y W0 w hp hr k hgh hB hB0 hg hh
  by_cases k2 : kd = 2
  · subst k2; exact act_good B g h M F Z n o q b u N y W0 w hp hr k hgh hB hB0 hg hh
  by_cases k3 : kd = 3
  · subst k3
    cases hx : inB N 0 1099511627776
    · exact act_used_f B g h M F Z n o q b u N y W0 w hp hr k hgh hB hB0 hg hh hx
    · exact act_used_t B g h M F Z n o q b u N y W0 w hp hr k hgh hB hB0 hg hh hx
  by_cases k4 : kd = 4
  · subst k4
    cases hx : inB N 1 2147483648
    · exact act_ask_f B g h M F Z n o q b u N y W0 w hp hr k hgh hB hB0 hg hh hx
    · exact act_ask_t B g h M F Z n o q b u N y W0 w hp hr k hgh hB hB0 hg hh hx
  by_cases k5 : kd = 5
  · subst k5
    cases hx : inB N 0 1099511627776
    · exact act_beat_f B g h M F Z n o q b u N y W0 w hp hr k hgh hB hB0 hg hh hx
    · cases o
      · exact act_beat_t B g h M F Z n q b u N y W0 w hp hr k hgh hB hB0 hg hh hx
      · exact act_beat_o B g h M F Z n q b u N y W0 w hp hr k hgh hB hB0 hg hh hx
  by_cases k6 : kd = 6
  · subst k6
    cases hx : inB N 0 1099511627776
    · exact act_heard_f B g h M F Z n o q b u N y W0 w hp hr k hgh hB hB0 hg hh hx
    · cases o
      · exact act_heard_n B g h M F Z n q b u N y W0 w hp hr k hgh hB hB0 hg hh hx
      · by_cases hqy : q = y
        · subst hqy
          have h1 : (q != q) = false := by simp
          by_cases hbn : N < b
          · exact act_heard_b B g h M F Z n q b u N q W0 w hp hr k hgh hB hB0 hg hh hx h1 h1 hbn
          · exact act_heard_t B g h M F Z n q b u N q W0 w hp hr k hgh hB hB0 hg hh hx h1 h1 (by omega)
        · exact act_heard_q B g h M F Z n q b u N y W0 w hp hr k hgh hB hB0 hg hh hx (by simpa using hqy) (by simp; omega)
  by_cases k7 : kd = 7
  · subst k7
    cases o
    · exact act_missed_n B g h M F Z n q b u N y W0 w hp hr k hgh hB hB0 hg hh
    · exact act_missed_t B g h M F Z n q b u N y W0 w hp hr k hgh hB hB0 hg hh
  exact act_none B g h M F Z n o q b u kd N y W0 w hp hr k hgh hB hB0 hg hh (by simpa using k1) (by simpa using k2) (by simpa using k3) (by simpa using k4) (by simpa using k5) (by simpa using k6) (by simpa using k7)
