/- Layer 16: Next. -/
import Derived.Test.YtbppdgekjdpgiaaI
namespace Go.Proofs.Ytbppdgekjdpgiaa.C
open Go.RowKit
set_option linter.unusedVariables false
set_option linter.unusedSimpArgs false
attribute [local go_sem high] max2_mx min2_mn max_two min_two
attribute [local go_sem ↓] Go.wp_at_zero Go.wp_at_succ

/-- the cells of stream s's first message -/
theorem QM.head {w : World} {base g : Nat} {q : QS} {L : Lay} (h : QM w base g q L) (s : Nat) (hs : s < q.n) (m : Msg) (ms : List Msg) (he : q.ss s = m :: ms) :
    ∃ b off c, L.sv s = .slice (some ⟨b, off, none⟩) (ms.length + 1) c ∧ ms.length + 1 ≤ c ∧ w.cell? ⟨b, off, none⟩ = some (.pointer (some ⟨L.mb s (L.hd s), 0, none⟩)) ∧ MB w L.role (L.mb s (L.hd s)) s m := by
  obtain ⟨a, c, e1, e2, e3⟩ := h.first s hs
  rw [he] at e1 e2 e3
  obtain ⟨b, off, rfl, e4⟩ := e3 (by simp)
  exact ⟨b, off, c, e1, e2, e4, h.ms s hs 0 m (by rw [he]; rfl)⟩
set_option maxHeartbeats 2000000 in
theorem nxt_f (base g : Nat) (q : QS) (L : Lay) (k : Ok q) (w : World) (h : QM w base g q L) (hn : nextF q < 0) :
    Calls Try.prog 15 #[.pointer (some ⟨g, 0, none⟩)] w fun e w' => e = .returned (.tuple #[.int .u16 0, .int .i64 0, .bool false]) ∧ Below w.heap.size w w' := by
  have H := Lib.hid h
  have HK := Lib.hid k
  clear h k
  go_enter Try.func15, Try.ntmps15
  go_wp2_with fail
  refine (is_ base g q L _ H.out).mono ?_
  rintro e w' ⟨rfl, rfl⟩
  go_wp2_with fail
  refine (next base g q L HK.out _ H.out).mono ?_
  rintro e w1 ⟨rfl, hb1⟩
  go_wp2
  go_ret3
  exact ⟨rfl, hb1⟩
set_option maxHeartbeats 4000000 in
theorem nxt_t (base g : Nat) (q : QS) (L : Lay) (k : Ok q) (s : Nat) (m : Msg) (ms : List Msg) (w : World) (h : QM w base g q L) (hn : nextF q = s) (hs : s < q.n) (he : q.ss s = m :: ms) :
    Calls Try.prog 15 #[.pointer (some ⟨g, 0, none⟩)] w fun e w' => e = .returned (.tuple #[.int .u16 s, .int .i64 m.data.length, .bool true]) ∧ Below w.heap.size w w' := by
  have H := Lib.hid h
  have HK := Lib.hid k
  have hn1 := k.n1
  have hnx := next base g q L k w h
  rw [hn] at hnx
  have HN := Lib.hid hnx
  clear h k hn hnx
  go_enter Try.func15, Try.ntmps15
  go_wp2_with fail
  refine (is_ base g q L _ H.out).mono ?_
  rintro e w' ⟨rfl, rfl⟩
  go_wp2_with fail
  refine (HN.out).mono ?_
  rintro e w1 ⟨rfl, hb1⟩
  have H1 := Lib.hid (H.out.below hb1)
  have c0 := H1.out.cells.c0
  have r0 := (H1.out.row s hs).1
  obtain ⟨b, off, c, e1, e2, e3, A, dc, m1, m2, m3, _⟩ := H1.out.head s hs m ms he
  rw [e1] at r0
  have m4 := cell_of_row w1 _ 4 _ 66 (0, 0) m1
  have hs0 : (0 : Int) ≤ (s : Int) := by omega
  have hs1 : (s : Int) < (q.n : Int) := by omega
  have hms : (0 : Int) < ((ms.length + 1 : Nat) : Int) := by omega
  have hwu : IntKind.u16.wrap (s : Int) = (s : Int) := by rw [IntKind.wrap_u16]; omega
  clear e1 m1 m2 he
  go_wp2_with fail
  go_quiet (fail)
  go_wp2
  go_ret3
  exact ⟨rfl, (by repeat (first | with_reducible exact Below.refl _ _ | with_reducible assumption | with_reducible refine Below.drew ?_ | with_reducible refine below_dN ?_ _ | with_reducible refine Below.setCell ?_ (by first | omega | (simp; done) | (simp; omega)) _ | with_reducible refine below_al ?_ (by first | omega | (simp; done) | (simp; omega)) _ | exact Below.refl _ _ | assumption | refine Below.drew ?_ | refine below_dN ?_ _ | refine Below.setCell ?_ (by first | omega | (simp; done) | (simp; omega)) _ | refine below_al ?_ (by first | omega | (simp; done) | (simp; omega)) _ | refine below_tr (by assumption) ?_ (by first | omega | (simp; done) | (simp; omega)) | fail))⟩
