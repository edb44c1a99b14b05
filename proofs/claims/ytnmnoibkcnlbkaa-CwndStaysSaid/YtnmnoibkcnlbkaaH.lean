/- Windows behind a change. -/
import Derived.Test.YtnmnoibkcnlbkaaF
import Derived.Test.YtnmnoibkcnlbkaaG
namespace Go.Proofs.Ytnmnoibkcnlbkaa.C
open Go.RowKit
set_option linter.unusedVariables false
set_option linter.unusedSimpArgs false
attribute [local go_sem high] max2_mx min2_mn max_two min_two
attribute [local go_sem ↓] Go.wp_at_zero Go.wp_at_succ

theorem ack (g : Nat) (c s p m k n : Int) (full : Bool) (w : World) (h : Bx w g c s p m k) (c0 : 0 ≤ c) (c1 : c ≤ 1073741824) (m0 : 0 ≤ m) (m1 : m ≤ 1500) (p0 : 0 ≤ p) (p1 : p ≤ c) (n0 : 0 ≤ n) (n1 : n ≤ 1073741824) :
    Calls Try.prog 30 #[.pointer (some ⟨g, 0, none⟩), .int .i64 n, .bool full] w (Chg w g (ackC c s p m k n full) s (ackP c s p m k n full) m k) := by
  by_cases h1 : c ≤ s
  · exact ack_ss g c s p m k n full w h c0 c1 m0 m1 p0 p1 n0 n1 h1
  by_cases h2 : c ≤ p + n
  · cases full
    · exact ack_part g c s p m k n w h c0 c1 m0 m1 p0 p1 n0 n1 h1 h2
    · exact ack_full g c s p m k n w h c0 c1 m0 m1 p0 p1 n0 n1 h1 h2
  · cases full
    · exact ack_few_false g c s p m k n w h c0 c1 m0 m1 p0 p1 n0 n1 h1 h2
    · exact ack_few_true g c s p m k n w h c0 c1 m0 m1 p0 p1 n0 n1 h1 h2
set_option maxHeartbeats 2000000 in
theorem ack1 (g : Nat) (c s p m k n : Int) (full moved : Bool) (a b d : Addr) (w : World) (h : Bx w g c s p m k) (ha : w.cell? a = some (.bool moved)) (hb : w.cell? b = some (.int .i64 n)) (hd : w.cell? d = some (.bool full)) (c0 : 0 ≤ c) (c1 : c ≤ 1073741824) (m0 : 0 ≤ m) (m1 : m ≤ 1500) (p0 : 0 ≤ p) (p1 : p ≤ c) (n0 : 0 ≤ n) (n1 : n ≤ 1073741824) :
    Calls Try.prog 29 #[.pointer (some ⟨g, 0, none⟩), .pointer (some a), .pointer (some b), .pointer (some d)] w (Chg w g (if moved = true then ackC c s p m k n full else c) s (if moved = true then ackP c s p m k n full else p) m k) := by
  have H := Lib.hid h
  clear h
  cases moved
  · go_enter Try.func29, Try.ntmps29
    go_wp2
    go_end0
    exact ⟨rfl, H.out, grown_below (Below.refl _ _)⟩
  · go_enter Try.func29, Try.ntmps29
    go_wp2_with fail
    refine (ack _ _ _ _ _ _ _ _ _ H.out c0 c1 m0 m1 p0 p1 n0 n1).mono ?_
    rintro e w' ⟨rfl, h1, h2⟩
    go_wp2
    go_end0
    exact ⟨rfl, h1, h2⟩

-- MARK (below: genH.py)
theorem Bx_new (w : World) (c s p m k : Int) : Bx (w.alloc (.cells #[.int .i64 c, .int .i64 s, .int .i64 p, .int .i64 m, .int .i64 k] 49)) w.heap.size c s p m k := heap_alloc_new w _
theorem Bx_new2 (w : World) (A B : Obj) (c s p m k : Int) : Bx (((w.alloc A).alloc B).alloc (.cells #[.int .i64 c, .int .i64 s, .int .i64 p, .int .i64 m, .int .i64 k] 49)) (w.heap.size + 1 + 1) c s p m k := by
  have h := Bx_new ((w.alloc A).alloc B) c s p m k
  have e : ((w.alloc A).alloc B).heap.size = w.heap.size + 1 + 1 := by simp
  rwa [e] at h
theorem five {w : World} {b ty : Nat} {v0 v1 v2 v3 v4 : Value} (h : w.heap[b]? = some (.cells #[v0, v1, v2, v3, v4] ty (0, 0))) : (w.cell? ⟨b, 0, none⟩ = some v0 ∧ w.cell? ⟨b, 1, none⟩ = some v1 ∧ w.cell? ⟨b, 2, none⟩ = some v2 ∧ w.cell? ⟨b, 3, none⟩ = some v3 ∧ w.cell? ⟨b, 4, none⟩ = some v4) ∧ (∀ j, w.frozen? ⟨b, j, none⟩ = false) :=
  ⟨⟨cell_of_row w b 0 _ ty (0, 0) h, cell_of_row w b 1 _ ty (0, 0) h, cell_of_row w b 2 _ ty (0, 0) h, cell_of_row w b 3 _ ty (0, 0) h, cell_of_row w b 4 _ ty (0, 0) h⟩, fun j => frozen_of_row w b j _ ty h⟩
theorem alloc_mid (w : World) (A B C : Obj) : (((w.alloc A).alloc B).alloc C).heap[w.heap.size + 1]? = some B := by
  have h := heap_alloc_new (w.alloc A) B
  have e : (w.alloc A).heap.size = w.heap.size + 1 := by simp
  rw [e] at h
  have hb : Below (w.heap.size + 2) ((w.alloc A).alloc B) (((w.alloc A).alloc B).alloc C) := (Below.refl _ _).alloc (by simp) _
  rw [hb.block _ (by omega)]
  exact h
set_option maxHeartbeats 2000000 in
theorem changed_fast (c s p m k c' s' p' : Int) (w : World) (hm : MayB c s p m k = true)
    (hF : ∀ w1 g, Below w.heap.size w w1 → Bx w1 g c s p m k → Calls Try.prog 35 #[.pointer (some ⟨g, 0, none⟩)] w1 (Chg w1 g c' s' p' m k)) :
    Calls Try.prog 28 #[.agg #[.int .i64 c, .int .i64 s, .int .i64 p, .int .i64 m, .int .i64 k], .func (.func 35) #[] #[]] w fun e w' =>
      e = .returned (.tuple #[.agg #[.int .i64 c', .int .i64 s', .int .i64 p', .int .i64 m, .int .i64 k], .int .i64 0]) ∧ Below w.heap.size w w' := by
  have hu24 := Try.underlying24
  have hu49 := Try.underlying49
  have HF := Lib.hid hF
  clear hF
  go_enter Try.func28, Try.ntmps28
  go_wp2_with fail
  refine (pmay _ _ _ _ _ _).mono ?_
  rw [hm]
  rintro e w1 ⟨rfl, hb1⟩
  have hB1 : Below w.heap.size w w1 := (by repeat (first | exact Below.refl _ _ | assumption | refine Below.drew ?_ | refine below_dN ?_ _ | refine Below.setCell ?_ (by first | omega | (simp; done) | (simp; omega)) _ | refine below_al ?_ (by first | omega | (simp; done) | (simp; omega)) _ | refine below_tr (by assumption) ?_ (by first | omega | (simp; done) | (simp; omega))))
  have z1 : w.heap.size + 2 < w1.heap.size := by have := hb1.size; simp at this; omega
  have hbx : Bx w1 (w.heap.size + 1 + 1) c s p m k := (Bx_new2 w _ _ c s p m k).below hb1
  have hrs := (hb1.block (w.heap.size + 1) (by simp)).trans (alloc_mid w _ _ _)
  clear hb1
  go_wp2_with fail
  refine (HF.out _ _ hB1 hbx).mono ?_
  rintro e w2 ⟨rfl, h2, g2⟩
  have hB2 : Below w.heap.size w w2 := hB1.grown g2 hB1.size (fun k hk => by simp at hk; omega)
  have hr2 := (g2.block (w.heap.size + 1) (by omega) (by simp)).trans hrs
  obtain ⟨⟨x0, x1, x2, x3, x4⟩, _, xg⟩ := Bx.cells h2
  obtain ⟨⟨y0, y1, y2, y3, y4⟩, yf⟩ := five hr2
  have yf0 := yf 0
  have yf1 := yf 1
  have yf2 := yf 2
  have yf3 := yf 3
  have yf4 := yf 4
  have z2 : w.heap.size + 1 < w2.heap.size := by omega
  clear h2 g2 hrs hr2 hbx yf
  go_wp2
  exact bodyPost_ret (v := .tuple #[.agg #[.int .i64 c', .int .i64 s', .int .i64 p', .int .i64 m, .int .i64 k], .int .i64 0]) (by simp [results, Try.results28, go_sem, x0, x1, x2, x3, x4, y0, y1, y2, y3, y4]) rfl ⟨rfl, (by repeat (first | exact Below.refl _ _ | assumption | refine Below.drew ?_ | refine below_dN ?_ _ | refine Below.setCell ?_ (by first | omega | (simp; done) | (simp; omega)) _ | refine below_al ?_ (by first | omega | (simp; done) | (simp; omega)) _ | refine below_tr (by assumption) ?_ (by first | omega | (simp; done) | (simp; omega))))⟩
set_option maxHeartbeats 2000000 in
theorem changed_timeout (c s p m k c' s' p' : Int) (w : World) (hm : MayB c s p m k = true)
    (hF : ∀ w1 g, Below w.heap.size w w1 → Bx w1 g c s p m k → Calls Try.prog 37 #[.pointer (some ⟨g, 0, none⟩)] w1 (Chg w1 g c' s' p' m k)) :
    Calls Try.prog 28 #[.agg #[.int .i64 c, .int .i64 s, .int .i64 p, .int .i64 m, .int .i64 k], .func (.func 37) #[] #[]] w fun e w' =>
      e = .returned (.tuple #[.agg #[.int .i64 c', .int .i64 s', .int .i64 p', .int .i64 m, .int .i64 k], .int .i64 0]) ∧ Below w.heap.size w w' := by
  have hu24 := Try.underlying24
  have hu49 := Try.underlying49
  have HF := Lib.hid hF
  clear hF
  go_enter Try.func28, Try.ntmps28
  go_wp2_with fail
  refine (pmay _ _ _ _ _ _).mono ?_
  rw [hm]
  rintro e w1 ⟨rfl, hb1⟩
  have hB1 : Below w.heap.size w w1 := (by repeat (first | exact Below.refl _ _ | assumption | refine Below.drew ?_ | refine below_dN ?_ _ | refine Below.setCell ?_ (by first | omega | (simp; done) | (simp; omega)) _ | refine below_al ?_ (by first | omega | (simp; done) | (simp; omega)) _ | refine below_tr (by assumption) ?_ (by first | omega | (simp; done) | (simp; omega))))
  have z1 : w.heap.size + 2 < w1.heap.size := by have := hb1.size; simp at this; omega
  have hbx : Bx w1 (w.heap.size + 1 + 1) c s p m k := (Bx_new2 w _ _ c s p m k).below hb1
  have hrs := (hb1.block (w.heap.size + 1) (by simp)).trans (alloc_mid w _ _ _)
  clear hb1
  go_wp2_with fail
  refine (HF.out _ _ hB1 hbx).mono ?_
  rintro e w2 ⟨rfl, h2, g2⟩
  have hB2 : Below w.heap.size w w2 := hB1.grown g2 hB1.size (fun k hk => by simp at hk; omega)
  have hr2 := (g2.block (w.heap.size + 1) (by omega) (by simp)).trans hrs
  obtain ⟨⟨x0, x1, x2, x3, x4⟩, _, xg⟩ := Bx.cells h2
  obtain ⟨⟨y0, y1, y2, y3, y4⟩, yf⟩ := five hr2
  have yf0 := yf 0
  have yf1 := yf 1
  have yf2 := yf 2
  have yf3 := yf 3
  have yf4 := yf 4
  have z2 : w.heap.size + 1 < w2.heap.size := by omega
  clear h2 g2 hrs hr2 hbx yf
  go_wp2
  exact bodyPost_ret (v := .tuple #[.agg #[.int .i64 c', .int .i64 s', .int .i64 p', .int .i64 m, .int .i64 k], .int .i64 0]) (by simp [results, Try.results28, go_sem, x0, x1, x2, x3, x4, y0, y1, y2, y3, y4]) rfl ⟨rfl, (by repeat (first | exact Below.refl _ _ | assumption | refine Below.drew ?_ | refine below_dN ?_ _ | refine Below.setCell ?_ (by first | omega | (simp; done) | (simp; omega)) _ | refine below_al ?_ (by first | omega | (simp; done) | (simp; omega)) _ | refine below_tr (by assumption) ?_ (by first | omega | (simp; done) | (simp; omega))))⟩
set_option maxHeartbeats 2000000 in
theorem changed_idle (c s p m k c' s' p' : Int) (w : World) (hm : MayB c s p m k = true)
    (hF : ∀ w1 g, Below w.heap.size w w1 → Bx w1 g c s p m k → Calls Try.prog 38 #[.pointer (some ⟨g, 0, none⟩)] w1 (Chg w1 g c' s' p' m k)) :
    Calls Try.prog 28 #[.agg #[.int .i64 c, .int .i64 s, .int .i64 p, .int .i64 m, .int .i64 k], .func (.func 38) #[] #[]] w fun e w' =>
      e = .returned (.tuple #[.agg #[.int .i64 c', .int .i64 s', .int .i64 p', .int .i64 m, .int .i64 k], .int .i64 0]) ∧ Below w.heap.size w w' := by
  have hu24 := Try.underlying24
  have hu49 := Try.underlying49
  have HF := Lib.hid hF
  clear hF
  go_enter Try.func28, Try.ntmps28
  go_wp2_with fail
  refine (pmay _ _ _ _ _ _).mono ?_
  rw [hm]
  rintro e w1 ⟨rfl, hb1⟩
  have hB1 : Below w.heap.size w w1 := (by repeat (first | exact Below.refl _ _ | assumption | refine Below.drew ?_ | refine below_dN ?_ _ | refine Below.setCell ?_ (by first | omega | (simp; done) | (simp; omega)) _ | refine below_al ?_ (by first | omega | (simp; done) | (simp; omega)) _ | refine below_tr (by assumption) ?_ (by first | omega | (simp; done) | (simp; omega))))
  have z1 : w.heap.size + 2 < w1.heap.size := by have := hb1.size; simp at this; omega
  have hbx : Bx w1 (w.heap.size + 1 + 1) c s p m k := (Bx_new2 w _ _ c s p m k).below hb1
  have hrs := (hb1.block (w.heap.size + 1) (by simp)).trans (alloc_mid w _ _ _)
  clear hb1
  go_wp2_with fail
  refine (HF.out _ _ hB1 hbx).mono ?_
  rintro e w2 ⟨rfl, h2, g2⟩
  have hB2 : Below w.heap.size w w2 := hB1.grown g2 hB1.size (fun k hk => by simp at hk; omega)
  have hr2 := (g2.block (w.heap.size + 1) (by omega) (by simp)).trans hrs
  obtain ⟨⟨x0, x1, x2, x3, x4⟩, _, xg⟩ := Bx.cells h2
  obtain ⟨⟨y0, y1, y2, y3, y4⟩, yf⟩ := five hr2
  have yf0 := yf 0
  have yf1 := yf 1
  have yf2 := yf 2
  have yf3 := yf 3
  have yf4 := yf 4
  have z2 : w.heap.size + 1 < w2.heap.size := by omega
  clear h2 g2 hrs hr2 hbx yf
  go_wp2
  exact bodyPost_ret (v := .tuple #[.agg #[.int .i64 c', .int .i64 s', .int .i64 p', .int .i64 m, .int .i64 k], .int .i64 0]) (by simp [results, Try.results28, go_sem, x0, x1, x2, x3, x4, y0, y1, y2, y3, y4]) rfl ⟨rfl, (by repeat (first | exact Below.refl _ _ | assumption | refine Below.drew ?_ | refine below_dN ?_ _ | refine Below.setCell ?_ (by first | omega | (simp; done) | (simp; omega)) _ | refine below_al ?_ (by first | omega | (simp; done) | (simp; omega)) _ | refine below_tr (by assumption) ?_ (by first | omega | (simp; done) | (simp; omega))))⟩
set_option maxHeartbeats 2000000 in
theorem changed_grow (b : Addr) (c s p m k c' s' p' : Int) (w : World) (hm : MayB c s p m k = true)
    (hF : ∀ w1 g, Below w.heap.size w w1 → Bx w1 g c s p m k → Calls Try.prog 32 #[.pointer (some ⟨g, 0, none⟩), .pointer (some b)] w1 (Chg w1 g c' s' p' m k)) :
    Calls Try.prog 28 #[.agg #[.int .i64 c, .int .i64 s, .int .i64 p, .int .i64 m, .int .i64 k], .func (.func 32) #[] #[.pointer (some b)]] w fun e w' =>
      e = .returned (.tuple #[.agg #[.int .i64 c', .int .i64 s', .int .i64 p', .int .i64 m, .int .i64 k], .int .i64 0]) ∧ Below w.heap.size w w' := by
  have hu24 := Try.underlying24
  have hu49 := Try.underlying49
  have HF := Lib.hid hF
  clear hF
  go_enter Try.func28, Try.ntmps28
  go_wp2_with fail
  refine (pmay _ _ _ _ _ _).mono ?_
  rw [hm]
  rintro e w1 ⟨rfl, hb1⟩
  have hB1 : Below w.heap.size w w1 := (by repeat (first | exact Below.refl _ _ | assumption | refine Below.drew ?_ | refine below_dN ?_ _ | refine Below.setCell ?_ (by first | omega | (simp; done) | (simp; omega)) _ | refine below_al ?_ (by first | omega | (simp; done) | (simp; omega)) _ | refine below_tr (by assumption) ?_ (by first | omega | (simp; done) | (simp; omega))))
  have z1 : w.heap.size + 2 < w1.heap.size := by have := hb1.size; simp at this; omega
  have hbx : Bx w1 (w.heap.size + 1 + 1) c s p m k := (Bx_new2 w _ _ c s p m k).below hb1
  have hrs := (hb1.block (w.heap.size + 1) (by simp)).trans (alloc_mid w _ _ _)
  clear hb1
  go_wp2_with fail
  refine (HF.out _ _ hB1 hbx).mono ?_
  rintro e w2 ⟨rfl, h2, g2⟩
  have hB2 : Below w.heap.size w w2 := hB1.grown g2 hB1.size (fun k hk => by simp at hk; omega)
  have hr2 := (g2.block (w.heap.size + 1) (by omega) (by simp)).trans hrs
  obtain ⟨⟨x0, x1, x2, x3, x4⟩, _, xg⟩ := Bx.cells h2
  obtain ⟨⟨y0, y1, y2, y3, y4⟩, yf⟩ := five hr2
  have yf0 := yf 0
  have yf1 := yf 1
  have yf2 := yf 2
  have yf3 := yf 3
  have yf4 := yf 4
  have z2 : w.heap.size + 1 < w2.heap.size := by omega
  clear h2 g2 hrs hr2 hbx yf
  go_wp2
  exact bodyPost_ret (v := .tuple #[.agg #[.int .i64 c', .int .i64 s', .int .i64 p', .int .i64 m, .int .i64 k], .int .i64 0]) (by simp [results, Try.results28, go_sem, x0, x1, x2, x3, x4, y0, y1, y2, y3, y4]) rfl ⟨rfl, (by repeat (first | exact Below.refl _ _ | assumption | refine Below.drew ?_ | refine below_dN ?_ _ | refine Below.setCell ?_ (by first | omega | (simp; done) | (simp; omega)) _ | refine below_al ?_ (by first | omega | (simp; done) | (simp; omega)) _ | refine below_tr (by assumption) ?_ (by first | omega | (simp; done) | (simp; omega))))⟩
set_option maxHeartbeats 2000000 in
theorem changed_ack (a : Addr) (b : Addr) (d : Addr) (c s p m k c' s' p' : Int) (w : World) (hm : MayB c s p m k = true)
    (hF : ∀ w1 g, Below w.heap.size w w1 → Bx w1 g c s p m k → Calls Try.prog 29 #[.pointer (some ⟨g, 0, none⟩), .pointer (some a), .pointer (some b), .pointer (some d)] w1 (Chg w1 g c' s' p' m k)) :
    Calls Try.prog 28 #[.agg #[.int .i64 c, .int .i64 s, .int .i64 p, .int .i64 m, .int .i64 k], .func (.func 29) #[] #[.pointer (some a), .pointer (some b), .pointer (some d)]] w fun e w' =>
      e = .returned (.tuple #[.agg #[.int .i64 c', .int .i64 s', .int .i64 p', .int .i64 m, .int .i64 k], .int .i64 0]) ∧ Below w.heap.size w w' := by
  have hu24 := Try.underlying24
  have hu49 := Try.underlying49
  have HF := Lib.hid hF
  clear hF
  go_enter Try.func28, Try.ntmps28
  go_wp2_with fail
  refine (pmay _ _ _ _ _ _).mono ?_
  rw [hm]
  rintro e w1 ⟨rfl, hb1⟩
  have hB1 : Below w.heap.size w w1 := (by repeat (first | exact Below.refl _ _ | assumption | refine Below.drew ?_ | refine below_dN ?_ _ | refine Below.setCell ?_ (by first | omega | (simp; done) | (simp; omega)) _ | refine below_al ?_ (by first | omega | (simp; done) | (simp; omega)) _ | refine below_tr (by assumption) ?_ (by first | omega | (simp; done) | (simp; omega))))
  have z1 : w.heap.size + 2 < w1.heap.size := by have := hb1.size; simp at this; omega
  have hbx : Bx w1 (w.heap.size + 1 + 1) c s p m k := (Bx_new2 w _ _ c s p m k).below hb1
  have hrs := (hb1.block (w.heap.size + 1) (by simp)).trans (alloc_mid w _ _ _)
  clear hb1
  go_wp2_with fail
  refine (HF.out _ _ hB1 hbx).mono ?_
  rintro e w2 ⟨rfl, h2, g2⟩
  have hB2 : Below w.heap.size w w2 := hB1.grown g2 hB1.size (fun k hk => by simp at hk; omega)
  have hr2 := (g2.block (w.heap.size + 1) (by omega) (by simp)).trans hrs
  obtain ⟨⟨x0, x1, x2, x3, x4⟩, _, xg⟩ := Bx.cells h2
  obtain ⟨⟨y0, y1, y2, y3, y4⟩, yf⟩ := five hr2
  have yf0 := yf 0
  have yf1 := yf 1
  have yf2 := yf 2
  have yf3 := yf 3
  have yf4 := yf 4
  have z2 : w.heap.size + 1 < w2.heap.size := by omega
  clear h2 g2 hrs hr2 hbx yf
  go_wp2
  exact bodyPost_ret (v := .tuple #[.agg #[.int .i64 c', .int .i64 s', .int .i64 p', .int .i64 m, .int .i64 k], .int .i64 0]) (by simp [results, Try.results28, go_sem, x0, x1, x2, x3, x4, y0, y1, y2, y3, y4]) rfl ⟨rfl, (by repeat (first | exact Below.refl _ _ | assumption | refine Below.drew ?_ | refine below_dN ?_ _ | refine Below.setCell ?_ (by first | omega | (simp; done) | (simp; omega)) _ | refine below_al ?_ (by first | omega | (simp; done) | (simp; omega)) _ | refine below_tr (by assumption) ?_ (by first | omega | (simp; done) | (simp; omega))))⟩
