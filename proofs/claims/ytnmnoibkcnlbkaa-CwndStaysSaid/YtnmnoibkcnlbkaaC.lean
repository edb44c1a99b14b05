/- Contracts of layer 12's functions. -/
import Derived.Test.YtnmnoibkcnlbkaaK
import Derived.Deep.QuietTactic
import Derived.Deep.RegionHeld3
import Derived.Deep.DrawnRows
import Derived.BigQuiet
import Derived.StillTailTactics
namespace Go.Proofs.Ytnmnoibkcnlbkaa.C
open Go.RowKit
set_option linter.unusedVariables false
set_option linter.unusedSimpArgs false
attribute [local go_sem high] max2_mx min2_mn max_two min_two
attribute [local go_sem ↓] Go.wp_at_zero Go.wp_at_succ

def inB (x low high : Int) : Bool := decide (low ≤ x ∧ x ≤ high)
theorem inB_t {x low high : Int} (h : inB x low high = true) : low ≤ x ∧ x ≤ high := by simpa [inB] using h
theorem inB_f {x low high : Int} (h : inB x low high = false) : ¬ (low ≤ x ∧ x ≤ high) := by simpa [inB] using h
set_option maxHeartbeats 400000 in
theorem within (x low high : Int) (w : World) :
    Calls Try.prog 26 #[.int .i64 x, .int .i64 low, .int .i64 high] w fun e w' => e = .returned (.bool (inB x low high)) ∧ w = w' := by
  go_enter Try.func26, Try.ntmps26
  go_wp2
  all_goals
    go_ret
    exact ⟨ret_bool (by simp [inB]; omega), rfl⟩
/-- a window that may be -/
def MayB (c ss pt mtu cap : Int) : Bool := inB mtu 100 1500 && (inB cap (4 * mtu) 1073741824 && (inB c mtu cap && (inB ss (4 * mtu) 1073741824 && inB pt 0 c)))
theorem MayB_t {c ss pt mtu cap : Int} (h : MayB c ss pt mtu cap = true) : 100 ≤ mtu ∧ mtu ≤ 1500 ∧ 4 * mtu ≤ cap ∧ cap ≤ 1073741824 ∧ mtu ≤ c ∧ c ≤ cap ∧ 4 * mtu ≤ ss ∧ ss ≤ 1073741824 ∧ 0 ≤ pt ∧ pt ≤ c := by
  simp [MayB, inB] at h; omega
set_option maxHeartbeats 400000 in
theorem pmay (c ss pt mtu cap : Int) (w : World) :
    Calls Try.prog 34 #[.agg #[.int .i64 c, .int .i64 ss, .int .i64 pt, .int .i64 mtu, .int .i64 cap]] w fun e w' => e = .returned (.bool (MayB c ss pt mtu cap)) ∧ Below w.heap.size w w' := by
  have hu24 := Try.underlying24
  have hu49 := Try.underlying49
  cases hm : inB mtu 100 1500
  · go_enter Try.func34, Try.ntmps34
    go_wp2_with (go_at_call 26; refine (within _ _ _ _).mono ?_; rintro e w' ⟨rfl, rfl⟩)
    go_ret
    exact ⟨ret_bool (by simp [MayB, hm]), (by repeat (first | exact Below.refl _ _ | assumption | refine Below.drew ?_ | refine below_dN ?_ _ | refine Below.setCell ?_ (by first | omega | (simp; done) | (simp; omega)) _ | refine below_al ?_ (by first | omega | (simp; done) | (simp; omega)) _ | refine below_tr (by assumption) ?_ (by first | omega | (simp; done) | (simp; omega))))⟩
  · obtain ⟨m0, m1⟩ := inB_t hm
    go_enter Try.func34, Try.ntmps34
    go_wp2_with (go_at_call 26; refine (within _ _ _ _).mono ?_; rintro e w' ⟨rfl, rfl⟩)
    all_goals
      go_ret
      exact ⟨ret_bool (by simp [MayB, *]), (by repeat (first | exact Below.refl _ _ | assumption | refine Below.drew ?_ | refine below_dN ?_ _ | refine Below.setCell ?_ (by first | omega | (simp; done) | (simp; omega)) _ | refine below_al ?_ (by first | omega | (simp; done) | (simp; omega)) _ | refine below_tr (by assumption) ?_ (by first | omega | (simp; done) | (simp; omega))))⟩

/-! ### a window in memory -/
def Bx (w : World) (g : Nat) (c s p m k : Int) : Prop := w.heap[g]? = some (.cells #[.int .i64 c, .int .i64 s, .int .i64 p, .int .i64 m, .int .i64 k] 49 (0, 0))
theorem Bx.cells {w : World} {g : Nat} {c s p m k : Int} (h : Bx w g c s p m k) : (w.cell? ⟨g, 0, none⟩ = some (.int .i64 c) ∧ w.cell? ⟨g, 1, none⟩ = some (.int .i64 s) ∧ w.cell? ⟨g, 2, none⟩ = some (.int .i64 p) ∧ w.cell? ⟨g, 3, none⟩ = some (.int .i64 m) ∧ w.cell? ⟨g, 4, none⟩ = some (.int .i64 k)) ∧ (∀ j, w.frozen? ⟨g, j, none⟩ = false) ∧ g < w.heap.size :=
  ⟨⟨cell_of_row w g 0 _ 49 (0, 0) h, cell_of_row w g 1 _ 49 (0, 0) h, cell_of_row w g 2 _ 49 (0, 0) h, cell_of_row w g 3 _ 49 (0, 0) h, cell_of_row w g 4 _ 49 (0, 0) h⟩, fun j => frozen_of_row w g j _ 49 h, (Array.getElem?_eq_some_iff.1 h).1⟩
theorem Bx.set0 {w : World} {g : Nat} {c s p m k : Int} (h : Bx w g c s p m k) (x : Int) : Bx (w.setCell ⟨g, 0, none⟩ (.int .i64 x)) g x s p m k := heap_setCell_same w g 0 _ 49 _ h
theorem Bx.set1 {w : World} {g : Nat} {c s p m k : Int} (h : Bx w g c s p m k) (x : Int) : Bx (w.setCell ⟨g, 1, none⟩ (.int .i64 x)) g c x p m k := heap_setCell_same w g 1 _ 49 _ h
theorem Bx.set2 {w : World} {g : Nat} {c s p m k : Int} (h : Bx w g c s p m k) (x : Int) : Bx (w.setCell ⟨g, 2, none⟩ (.int .i64 x)) g c s x m k := heap_setCell_same w g 2 _ 49 _ h
theorem Bx.below {w w' : World} {g : Nat} {c s p m k : Int} (h : Bx w g c s p m k) (hb : Below w.heap.size w w') : Bx w' g c s p m k := by
  unfold Bx; rw [hb.block g (Array.getElem?_eq_some_iff.1 h).1]; exact h
theorem grown_set (w : World) (g j : Nat) (v : Value) : w.grownBy (w.setCell ⟨g, j, none⟩ v) (some g) :=
  ⟨rfl, rfl, rfl, by simp, fun k _ hk => heap_setCell_other w ⟨g, j, none⟩ k v (fun e => hk (by simp [e]))⟩
theorem grown_below {w w' : World} {r : Option Nat} (h : Below w.heap.size w w') : w.grownBy w' r := ⟨h.os, h.tape, h.output, h.size, fun k hk _ => h.block k hk⟩
theorem grown_tr {a b c : World} {r : Option Nat} (h1 : a.grownBy b r) (h2 : b.grownBy c r) : a.grownBy c r :=
  ⟨h2.os.trans h1.os, h2.tape.trans h1.tape, h2.output.trans h1.output, Nat.le_trans h1.size h2.size, fun k hk hr => (h2.block k (Nat.lt_of_lt_of_le hk h1.size) hr).trans (h1.block k hk hr)⟩
theorem Bx.drew {w : World} {g : Nat} {c s p m k : Int} (h : Bx w g c s p m k) : Bx w.drew g c s p m k := h
theorem grown_drew {a b : World} {r : Option Nat} (h : a.grownBy b r) : a.grownBy b.drew r := ⟨h.os, h.tape, h.output, h.size, h.block⟩
/-- what a change of the window at g leaves -/
def Chg (w : World) (g : Nat) (c s p m k : Int) (e : Ending) (w' : World) : Prop := e = .returned (.tuple #[]) ∧ Bx w' g c s p m k ∧ w.grownBy w' (some g)
set_option maxHeartbeats 1000000 in
theorem grow (g : Nat) (c s p m k n : Int) (w : World) (h : Bx w g c s p m k) (c0 : 0 ≤ c) (c1 : c ≤ 1073741824) (n0 : 0 ≤ n) (n1 : n ≤ 1073741824) :
    Calls Try.prog 33 #[.pointer (some ⟨g, 0, none⟩), .int .i64 n] w (Chg w g (mn k (c + n)) s p m k) := by
  have hu24 := Try.underlying24
  have hu49 := Try.underlying49
  obtain ⟨⟨y0, y1, y2, y3, y4⟩, yf, yg⟩ := h.cells
  have hw1 : IntKind.i64.wrap (c + n) = c + n := by rw [IntKind.wrap_i64]; omega
  go_enter Try.func33, Try.ntmps33
  go_still_tail 17, (by kernel_rfl)
  change wpList _ _ _ _ _ w.drew
  generalize hw2 : w.drew = w2
  have H : Bx w2 g c s p m k := by subst hw2; exact h
  have hb : Below w.heap.size w w2 := by subst hw2; exact (Below.refl _ _).drew
  have HH := Lib.hid H
  obtain ⟨⟨x0, x1, x2, x3, x4⟩, xf, xg⟩ := H.cells
  have f0 := xf 0
  clear h H hw2 y0 y1 y2 y3 y4 yf yg
  go_wp2
  go_end0
  exact ⟨rfl, HH.out.set0 _, grown_tr (grown_below hb) (grown_set _ _ _ _)⟩
theorem Rd1 {w : World} {ad : Addr} {b : Int} (h : w.cell? ad = some (.int .i64 b)) : Rd .i64 w (some ad) 1 [b] :=
  ⟨rfl, by omega, fun _ => ⟨ad, rfl, fun j hj => by obtain rfl : j = 0 := by omega
                                                    exact h⟩⟩
set_option maxHeartbeats 1000000 in
theorem most (a b : Int) (w w0 : World) (A : Option Addr) (d : Nat) (h : Rd .i64 w A 1 [b]) :
    Calls Try.prog 27 #[.int .i64 a, .slice A 1 d] w fun e w' => e = .returned (.int .i64 (mx a b)) ∧ w = w' := by
  obtain ⟨ad, rfl, hc⟩ := h.2.2 (by omega)
  have hc0 : w.cell? ad = some (.int .i64 b) := hc 0 (by omega)
  clear hc h
  go_enter Try.func27, Try.ntmps27
  go_wp2
  go_loop [0, 9] (fun x i => (x = .int .i64 a ∧ i = .int .i64 0) ∨ (x = .int .i64 (mx a b) ∧ i = .int .i64 1)) (fun _ i => 1 - (intOf i).toNat)
  case atStart => exact .inl ⟨rfl, rfl⟩
  case round =>
    rcases hrel with ⟨rfl, rfl⟩ | ⟨rfl, rfl⟩
    · go_wp2
      go_round
      case rel => exact .inr ⟨rfl, rfl⟩
      case measure => simp [intOf]
    · go_wp2
      go_ret
      exact ⟨rfl, rfl⟩
set_option maxHeartbeats 2000000 in
theorem half (g : Nat) (c s p m k : Int) (w : World) (h : Bx w g c s p m k) (c0 : 0 ≤ c) (c1 : c ≤ 1073741824) (m0 : 0 ≤ m) (m1 : m ≤ 1500) :
    Calls Try.prog 36 #[.pointer (some ⟨g, 0, none⟩)] w fun e w' => e = .returned (.int .i64 (mx (c / 2) (4 * m))) ∧ Below w.heap.size w w' := by
  have hu24 := Try.underlying24
  have hu49 := Try.underlying49
  have HH := Lib.hid h
  obtain ⟨⟨x0, x1, x2, x3, x4⟩, xf, xg⟩ := h.cells
  have hw0 : IntKind.i64.wrap (c.tdiv 2) = c / 2 := by rw [Int.tdiv_eq_ediv_of_nonneg (by omega), IntKind.wrap_i64]; omega
  have hw2 : IntKind.i64.wrap (4 * m) = 4 * m := by rw [IntKind.wrap_i64]; omega
  clear h xf
  go_enter Try.func36, Try.ntmps36
  go_wp2_with fail
  go_region_held3 (fun w' => Below w.heap.size w w' ∧ ∀ a : Addr, a.block < w.heap.size → w'.cell? a = w.cell? a) (first | exact keep0 _ | assumption | exact keepB (by repeat (first | exact Below.refl _ _ | assumption | refine Below.drew ?_ | refine below_dN ?_ _ | refine Below.setCell ?_ (by first | omega | (simp; done) | (simp; omega)) _ | refine below_al ?_ (by first | omega | (simp; done) | (simp; omega)) _ | refine below_tr (by assumption) ?_ (by first | omega | (simp; done) | (simp; omega)))) | exact keep1 (by assumption) (by first | assumption | exact (Below.refl _ _).drew | exact And.left (by assumption)) (by first | omega | (simp; done) | (simp; omega))) (first | (go_at_call 27; refine (most _ _ _ w _ _ (Rd1 (b := 4 * m) (by simp [go_sem]))).mono ?_; rintro e w' ⟨rfl, rfl⟩))
  go_wp2
  go_ret
  exact ⟨rfl, And.left ‹Below w.heap.size w _ ∧ _›⟩
