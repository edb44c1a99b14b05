/- Layer 16: what Take makes of a queue: the first message begun, its number, its bytes; the queue's fields. -/
import Derived.Test.YtbppdgekjdpgiaaT
namespace Go.Proofs.Ytbppdgekjdpgiaa.C
open Go.RowKit
set_option linter.unusedVariables false
set_option linter.unusedSimpArgs false

def upd {α : Type} (f : Nat → α) (s : Nat) (x : α) : Nat → α := fun t => if t = s then x else f t
theorem upd_same {α : Type} (f : Nat → α) (s : Nat) (x : α) : upd f s x s = x := if_pos rfl
theorem upd_ne {α : Type} (f : Nat → α) (s t : Nat) (x : α) (h : t ≠ s) : upd f s x t = f t := if_neg h
section
variable {w w' : World} {base g : Nat} {q : QS} {L : Lay} {b : Nat}
theorem Rd.oth {k : IntKind} {A : Option Addr} {n : Nat} {xs : List Int} (h : Rd k w A n xs) (ho : Oth w w' b) (hA : ∀ ad, A = some ad → ad.block ≠ b) : Rd k w' A n xs := by
  refine ⟨h.1, h.2.1, fun h0 => ?_⟩
  obtain ⟨ad, rfl, hc⟩ := h.2.2 h0
  refine ⟨ad, rfl, fun j hj => ?_⟩
  have hx := hc j hj
  rw [World.cell?_of_block (ho.2 _ (World.block_lt_of_cell? w _ hx) (by rw [block_add]; exact hA ad rfl))]
  exact hx
theorem QM.setHead (h : QM w base g q L) (s : Nat) (hs : s < q.n) (m : Msg) (ms : List Msg) (he : q.ss s = m :: ms) (j : Nat) (v : Value) (m' : Msg)
    (hm : MB (w.setCell ⟨L.mb s (L.hd s), j, none⟩ v) L.role (L.mb s (L.hd s)) s m') :
    QM (w.setCell ⟨L.mb s (L.hd s), j, none⟩ v) base g { q with ss := upd q.ss s (m' :: ms) } L := by
  have := h.setMsg s 0 hs m' (by rw [he]; simp) (oth_set w _ j v) hm
  rw [he] at this
  exact this
theorem QM.setBegun (h : QM w base g q L) (s : Nat) (hs : s < q.n) (m : Msg) (ms : List Msg) (he : q.ss s = m :: ms) :
    QM (w.setCell ⟨L.mb s (L.hd s), 5, none⟩ (.bool true)) base g { q with ss := upd q.ss s ({ m with begun := true } :: ms) } L := by
  refine h.setHead s hs m ms he 5 _ _ ?_
  obtain ⟨A, c, h1, h2, h3, h4, h5⟩ := h.ms s hs 0 m (by rw [he]; rfl)
  have hr := (h.mr s hs 0 (by rw [he]; simp)).1
  refine ⟨A, c, by rw [Nat.add_zero] at h1; rw [heap_setCell_same w _ 5 _ 66 _ h1]; rfl, Rd.oth h2 (oth_set w _ 5 _) (fun ad e => role_ne (role := L.role) (by rw [(h5 ad e).1]; rw [Nat.add_zero] at hr; rw [hr]; simp)), h3, h4, fun ad e => ⟨(h5 ad e).1, by simpa using (h5 ad e).2⟩⟩
theorem QM.setSsn (h : QM w base g q L) (s : Nat) (hs : s < q.n) (m : Msg) (ms : List Msg) (he : q.ss s = m :: ms) (x : Int) :
    QM (w.setCell ⟨L.mb s (L.hd s), 1, none⟩ (.int .u16 x)) base g { q with ss := upd q.ss s ({ m with ssn := x } :: ms) } L := by
  refine h.setHead s hs m ms he 1 _ _ ?_
  obtain ⟨A, c, h1, h2, h3, h4, h5⟩ := h.ms s hs 0 m (by rw [he]; rfl)
  have hr := (h.mr s hs 0 (by rw [he]; simp)).1
  refine ⟨A, c, by rw [Nat.add_zero] at h1; rw [heap_setCell_same w _ 1 _ 66 _ h1]; rfl, Rd.oth h2 (oth_set w _ 1 _) (fun ad e => role_ne (role := L.role) (by rw [(h5 ad e).1]; rw [Nat.add_zero] at hr; rw [hr]; simp)), h3, h4, fun ad e => ⟨(h5 ad e).1, by simpa using (h5 ad e).2⟩⟩
theorem QM.setData (h : QM w base g q L) (s : Nat) (hs : s < q.n) (m : Msg) (ms : List Msg) (he : q.ss s = m :: ms) (A : Option Addr) (c : Nat) (xs : List Int) (h2 : Rd .u8 w A xs.length xs) (h3 : xs.length ≤ c) (h4 : A = none → c = 0) (h5 : ∀ ad, A = some ad → L.role ad.block = (5, 0, 0) ∧ ad.block < w.heap.size) :
    QM (w.setCell ⟨L.mb s (L.hd s), 4, none⟩ (.slice A xs.length c)) base g { q with ss := upd q.ss s ({ m with data := xs } :: ms) } L := by
  refine h.setHead s hs m ms he 4 _ _ ?_
  obtain ⟨A', c', h1, _⟩ := h.ms s hs 0 m (by rw [he]; rfl)
  have hr := (h.mr s hs 0 (by rw [he]; simp)).1
  refine ⟨A, c, by rw [Nat.add_zero] at h1; rw [heap_setCell_same w _ 4 _ 66 _ h1]; rfl, Rd.oth h2 (oth_set w _ 4 _) (fun ad e => role_ne (role := L.role) (by rw [(h5 ad e).1]; rw [Nat.add_zero] at hr; rw [hr]; simp)), h3, h4, fun ad e => ⟨(h5 ad e).1, by simpa using (h5 ad e).2⟩⟩
theorem QM.setOpn (h : QM w base g q L) (x : Int) : QM (w.setCell ⟨g, 6, none⟩ (.int .i64 x)) base g { q with opn := x } L :=
  h.setQ _ rfl rfl rfl (by rw [heap_setCell_same w g 6 _ 59 _ h.qb]; rfl) (oth_set w _ _ _)
theorem QM.setLast (h : QM w base g q L) (x : Int) : QM (w.setCell ⟨g, 5, none⟩ (.int .i64 x)) base g { q with last := x } L :=
  h.setQ _ rfl rfl rfl (by rw [heap_setCell_same w g 5 _ 59 _ h.qb]; rfl) (oth_set w _ _ _)
theorem QM.setTak (h : QM w base g q L) (x : Int) : QM (w.setCell ⟨g, 4, none⟩ (.int .i64 x)) base g { q with tak := x } L :=
  h.setQ _ rfl rfl rfl (by rw [heap_setCell_same w g 4 _ 59 _ h.qb]; rfl) (oth_set w _ _ _)
theorem QM.setWai (h : QM w base g q L) (x : Int) : QM (w.setCell ⟨g, 3, none⟩ (.int .i64 x)) base g { q with wai := x } L :=
  h.setQ _ rfl rfl rfl (by rw [heap_setCell_same w g 3 _ 59 _ h.qb]; rfl) (oth_set w _ _ _)
end
/-! ### what Take makes of a queue -/
/-- its first message, begun -/
def begM (q : QS) (s : Nat) (m : Msg) : Msg := if m.begun then m else { m with begun := true, ssn := if m.un then m.ssn else q.nums s }
def begQ (q : QS) (s : Nat) (m : Msg) (ms : List Msg) : QS :=
  if m.begun then q else { q with opn := s, last := s, ss := upd q.ss s (begM q s m :: ms), nums := if m.un then q.nums else upd q.nums s (IntKind.u16.wrap (q.nums s + 1)) }
def takeQ (q : QS) (s : Nat) (m : Msg) (ms : List Msg) (x : Nat) : QS :=
  if m.data.length ≤ x then { begQ q s m ms with ss := upd q.ss s ms, opn := -1, wai := q.wai - m.data.length, tak := q.tak + m.data.length }
  else { begQ q s m ms with ss := upd q.ss s ({ begM q s m with data := m.data.drop x } :: ms), wai := q.wai - x, tak := q.tak + x }
theorem upd_upd {α : Type} (f : Nat → α) (s : Nat) (x y : α) : upd (upd f s x) s y = upd f s y := by
  funext t; unfold upd; split <;> rfl
theorem begQ_ss (q : QS) (s : Nat) (m : Msg) (ms : List Msg) (he : q.ss s = m :: ms) : (begQ q s m ms).ss s = begM q s m :: ms := by
  unfold begQ begM
  split
  · exact he
  · exact upd_same _ _ _
theorem begQ_f (q : QS) (s : Nat) (m : Msg) (ms : List Msg) : (begQ q s m ms).n = q.n ∧ (begQ q s m ms).wai = q.wai ∧ (begQ q s m ms).tak = q.tak ∧ (begQ q s m ms).lim = q.lim := by
  unfold begQ
  split <;> exact ⟨rfl, rfl, rfl, rfl⟩
theorem begQ_upd (q : QS) (s : Nat) (m : Msg) (ms : List Msg) (x : List Msg) : upd (begQ q s m ms).ss s x = upd q.ss s x := by
  unfold begQ
  split
  · rfl
  · exact upd_upd _ _ _ _
theorem begM_f (q : QS) (s : Nat) (m : Msg) : (begM q s m).data = m.data ∧ (begM q s m).begun = true ∧ (begM q s m).un = m.un ∧ (begM q s m).proto = m.proto := by
  unfold begM
  split
  · exact ⟨rfl, by assumption, rfl, rfl⟩
  · exact ⟨rfl, rfl, rfl, rfl⟩
