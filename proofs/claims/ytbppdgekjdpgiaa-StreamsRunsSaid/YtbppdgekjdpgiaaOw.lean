/- The law StreamsOwn: the walk. -/
import Derived.Test.YtbppdgekjdpgiaaBo
namespace Go.Proofs.Ytbppdgekjdpgiaa.C
open Go.RowKit
set_option linter.unusedVariables false
set_option linter.unusedSimpArgs false
attribute [local go_sem high] max2_mx min2_mn max_two min_two
attribute [local go_sem ↓] Go.wp_at_zero Go.wp_at_succ

/-- the row of one's own behind k rounds -/
def OwnAt (wr : World) (A : Option Addr) (zs : List Int) (k : Nat) : Prop :=
  ∀ go, A = some ⟨go, 0, none⟩ → ∃ arr : Array Value, wr.heap[go]? = some (.cells arr 5 (0, 0)) ∧ zs.length ≤ arr.size ∧ ∀ i, k ≤ i → i < zs.length → arr[i]? = some (.int .u8 (rdI zs i))
def Fo (A : Option Addr) (b : Nat) : Prop := A = some ⟨b, 0, none⟩
/-- a round of the first loop -/
structure Lp (w wr : World) (base g : Nat) (q : QS) (A : Option Addr) (zs : List Int) (k : Nat) : Prop where
  oq : OQ wr base g q (Fo A)
  b : Below base w wr
  o : OwnAt wr A zs k
  l : ∀ b, Fo A b → base ≤ b
theorem OwnAt.keep {w w' : World} {A : Option Addr} {zs : List Int} {k : Nat} (h : OwnAt w A zs k) (hk : ∀ b, Fo A b → w'.heap[b]? = w.heap[b]?) : OwnAt w' A zs k := fun go e => by
  obtain ⟨arr, h1, h2⟩ := h go e
  exact ⟨arr, (hk go e).trans h1, h2⟩
theorem Lp.drewN {w wr : World} {base g : Nat} {q : QS} {A : Option Addr} {zs : List Int} {k : Nat} (h : Lp w wr base g q A zs k) (n : Nat) : Lp w (wr.drewN n) base g q A zs k :=
  ⟨h.oq.drewN n, below_dN h.b n, h.o.keep fun _ _ => rfl, h.l⟩
theorem Lp.set {w wr : World} {base g go : Nat} {q : QS} {zs : List Int} {k : Nat} {v : Value} (h : Lp w wr base g q (some ⟨go, 0, none⟩) zs k) : Lp w (wr.setCell ⟨go, k, none⟩ v) base g q (some ⟨go, 0, none⟩) zs (k + 1) := by
  refine ⟨h.oq.set go k v rfl, h.b.setCell (h.l go rfl) _, fun go' e => ?_, h.l⟩
  obtain rfl : go' = go := by injection e with e; injection e with e; exact e.symm
  obtain ⟨arr, h1, h2, h3⟩ := h.o go' rfl
  refine ⟨_, heap_setCell_same wr go' k arr 5 v h1, by simpa using h2, fun i hi hil => ?_⟩
  rw [Array.getElem?_setIfInBounds_ne (by omega)]
  exact h3 i (by omega) hil
/-- behind a push -/
theorem Lp.push {w wr w' : World} {base g : Nat} {q q' : QS} {A : Option Addr} {zs : List Int} {k : Nat} {n : Int} {e : Ending} (h : Lp w wr base g q A zs k) (hp : PushS base g q' (Fo A) n wr e w') : Lp w w' base g q' A zs k := by
  have hlt : ∀ b, Fo A b → b < wr.heap.size := fun b hb => by
    obtain ⟨arr, h1, _⟩ := h.o b hb
    exact lt_of_heap h1
  exact ⟨hp.2.same hlt, h.b.trans hp.2.below, h.o.keep fun b hb => hp.2.keep b (hlt b hb) hb, h.l⟩
/-- the row that was just appended to an empty one -/
theorem own_row {w2 w' : World} {zs : List Int} {v' : Value} (hown : w'.ownsRow w2.heap.size 5 1 v' zs.length (nums8 zs)) :
    ∃ A' c', v' = .slice A' zs.length c' ∧ Rd .u8 w' A' zs.length zs ∧ OwnAt w' A' zs 0 ∧ (0 < zs.length → ∃ go, A' = some ⟨go, 0, none⟩) ∧ (∀ b, Fo A' b → w2.heap.size ≤ b) := by
  rcases hown.2 with ⟨rfl, h0⟩ | ⟨go, cap, cur, rfl, hb, hh, hcap, hm, hsz, htk⟩
  · rw [h0]
    have hz : zs = [] := List.eq_nil_of_length_eq_zero h0
    subst hz
    exact ⟨none, 0, rfl, ⟨rfl, by decide, fun h => absurd h (by decide)⟩, (fun go e => by cases e), (fun h => absurd h (by decide)), fun b e => by cases e⟩
  · refine ⟨_, cap, rfl, (own8_rd hown).1, fun go' e => ?_, fun _ => ⟨go, rfl⟩, fun b e => by injection e with e; injection e with e; omega⟩
    obtain rfl : go = go' := by injection e with e; injection e
    refine ⟨cur, hh, by simp at hsz; omega, fun i _ hi => ?_⟩
    have := congrArg (fun l => l[i]?) htk
    simp only [Nat.mul_one, nums8, List.getElem?_map, List.getElem?_take, if_pos hi] at this
    rw [Array.getElem?_toList] at this
    rw [this]
    simp [rdI, List.getElem?_eq_getElem hi]
namespace OwnQ
def Q0 : QS := newQ 1 1073741824
def Q1 (zs : List Int) : QS := pushQ Q0 0 0 false zs
def Q2 (zs : List Int) : QS := pushQ (Q1 zs) 0 0 true zs
def M1 (zs : List Int) : Msg := ⟨0, 0, false, zs, false⟩
def M2 (zs : List Int) : Msg := ⟨0, 0, true, zs, false⟩
def Q3 (zs : List Int) : QS := takeQ (Q2 zs) 0 (M1 zs) [M2 zs] zs.length
def Q4 (zs : List Int) : QS := takeQ (Q3 zs) 0 (M2 zs) [] zs.length
theorem i0 : Inv Q0 := Inv.new 1 1073741824 (by decide) (by decide) (by decide) (by decide)
theorem i1 (zs : List Int) (h0 : 0 < zs.length) (h1 : zs.length ≤ 65536) : Inv (Q1 zs) := i0.push 0 0 false zs (by decide) h0 h1 (by simp [Q0, newQ]; omega)
theorem i2 (zs : List Int) (h0 : 0 < zs.length) (h1 : zs.length ≤ 65536) : Inv (Q2 zs) := (i1 zs h0 h1).push 0 0 true zs (Nat.lt_succ_self 0) h0 h1 (by simp [Q1, Q0, newQ, pushQ]; omega)
theorem n2 (zs : List Int) (h0 : 0 < zs.length) (h1 : zs.length ≤ 65536) : nextF (Q2 zs) = ((0 : Nat) : Int) := by
  rcases next_cases (i2 zs h0 h1) with ⟨_, _, h⟩ | ⟨s, m, ms, h, hs, _⟩
  · have := h 0 (by decide : 0 < 1)
    simp [Q2, Q1, pushQ] at this
  · have : s < 1 := hs
    rw [h]
    omega
theorem i3 (zs : List Int) (h0 : 0 < zs.length) (h1 : zs.length ≤ 65536) : Inv (Q3 zs) := (i2 zs h0 h1).take 0 (M1 zs) [M2 zs] zs.length (by decide : 0 < 1) rfl (.inr ⟨(show (-1 : Int) < 0 by decide), rfl⟩) h0
theorem ss3 (zs : List Int) : (Q3 zs).ss 0 = [M2 zs] := by unfold Q3 takeQ; rw [if_pos (show (M1 zs).data.length ≤ zs.length from Nat.le_refl _)]; rfl
theorem nn3 (zs : List Int) : (Q3 zs).n = 1 := by unfold Q3; exact (takeQ_f _ _ _ _ _).1
theorem n3 (zs : List Int) (h0 : 0 < zs.length) (h1 : zs.length ≤ 65536) : nextF (Q3 zs) = ((0 : Nat) : Int) := by
  rcases next_cases (i3 zs h0 h1) with ⟨_, _, h⟩ | ⟨s, m, ms, h, hs, _⟩
  · have := h 0 (by rw [nn3]; decide)
    rw [ss3] at this
    cases this
  · rw [nn3] at hs
    rw [h]
    omega
theorem num3 (zs : List Int) : (begM (Q3 zs) 0 (M2 zs)).ssn = 0 := rfl
end OwnQ
open OwnQ
theorem takeS_eq {base g : Nat} {q' : QS} {F : Nat → Prop} {s ssn proto ssn' : Int} {un bg en en' : Bool} {xs xs' : List Int} {w : World} {args : Array Value} (h : Calls Try.prog 12 args w (TakeS base g q' F s ssn proto un xs bg en w)) (e1 : ssn = ssn') (e2 : xs = xs') (e3 : en = en') : Calls Try.prog 12 args w (TakeS base g q' F s ssn' proto un xs' bg en' w) := by
  subst e1 e2 e3; exact h
theorem take1 {w : World} {base g : Nat} {F : Nat → Prop} (zs : List Int) (h0 : 0 < zs.length) (h1 : zs.length ≤ 65536) (h : OQ w base g (Q2 zs) F) :
    Calls Try.prog 12 #[.pointer (some ⟨g, 0, none⟩), .int .i64 zs.length] w (TakeS base g (Q3 zs) F 0 0 0 false zs true true w) :=
  takeS_eq (take_s h (i2 zs h0 h1).ok 0 (M1 zs) [M2 zs] zs.length (n2 zs h0 h1) (by decide : 0 < 1) rfl h0 h0 h1 (by simp [Q2, Q1, Q0, pushQ, newQ, M1]; omega)) rfl (List.take_of_length_le (Nat.le_refl _)) (decide_eq_true (Nat.le_refl _))
theorem take2 {w : World} {base g : Nat} {F : Nat → Prop} (zs : List Int) (h0 : 0 < zs.length) (h1 : zs.length ≤ 65536) (h : OQ w base g (Q3 zs) F) :
    Calls Try.prog 12 #[.pointer (some ⟨g, 0, none⟩), .int .i64 zs.length] w (TakeS base g (Q4 zs) F 0 0 0 true zs true true w) :=
  takeS_eq (take_s h (i3 zs h0 h1).ok 0 (M2 zs) [] zs.length (n3 zs h0 h1) (by rw [nn3]; decide) (ss3 zs) h0 h0 h1 ((i3 zs h0 h1).head 0 (by rw [nn3]; decide) (M2 zs) [] (ss3 zs)).2.2) rfl (List.take_of_length_le (Nat.le_refl _)) (decide_eq_true (Nat.le_refl _))
theorem push_bad {w : World} {base g : Nat} {F : Nat → Prop} (zs : List Int) (un : Bool) (A : Option Addr) (c : Nat) (h : OQ w base g Q0 F) (hr : Rd .u8 w A zs.length zs) (hbad : zs.length = 0 ∨ 65536 < zs.length) :
    Calls Try.prog 11 #[.pointer (some ⟨g, 0, none⟩), .int .u16 0, .int .u32 0, .bool un, .slice A zs.length c] w (PushS base g Q0 F 2 w) := by
  have e : pushE Q0 0 zs.length = 2 := by
    unfold pushE
    rw [if_neg (by decide), if_pos hbad]
  have h1 := push_any h i0 0 zs.length c 0 un A zs hr (by decide)
  unfold pushR at h1
  rw [e, if_neg (by decide)] at h1
  exact h1
theorem push_q1 {w : World} {base g : Nat} {F : Nat → Prop} (zs : List Int) (A : Option Addr) (c : Nat) (h : OQ w base g Q0 F) (hr : Rd .u8 w A zs.length zs) (h0 : 0 < zs.length) (h1 : zs.length ≤ 65536) :
    Calls Try.prog 11 #[.pointer (some ⟨g, 0, none⟩), .int .u16 0, .int .u32 0, .bool false, .slice A zs.length c] w (PushS base g (Q1 zs) F 0 w) := by
  have e : pushE Q0 0 zs.length = 0 := by
    unfold pushE
    rw [if_neg (by decide), if_neg (by omega), if_neg (by simp [Q0, newQ]; omega)]
  have h1 := push_any h i0 0 zs.length c 0 false A zs hr (by decide)
  unfold pushR at h1
  rw [e, if_pos rfl] at h1
  exact h1
theorem push_q2 {w : World} {base g : Nat} {F : Nat → Prop} (zs : List Int) (A : Option Addr) (c : Nat) (h : OQ w base g (Q1 zs) F) (hr : Rd .u8 w A zs.length zs) (h0 : 0 < zs.length) (h1 : zs.length ≤ 65536) :
    Calls Try.prog 11 #[.pointer (some ⟨g, 0, none⟩), .int .u16 0, .int .u32 0, .bool true, .slice A zs.length c] w (PushS base g (Q2 zs) F 0 w) := by
  have e : pushE (Q1 zs) 0 zs.length = 0 := by
    unfold pushE
    rw [if_neg (show ¬ (Q1 zs).n ≤ 0 from Nat.not_le.2 (Nat.lt_succ_self 0)), if_neg (by omega), if_neg (by simp [Q1, Q0, newQ, pushQ]; omega)]
  have h2 := push_any h (i1 zs h0 h1) 0 zs.length c 0 true A zs hr (by decide)
  unfold pushR at h2
  rw [e, if_pos rfl] at h2
  exact h2
theorem OwnAt.rd {w : World} {A : Option Addr} {zs : List Int} (h : OwnAt w A zs 0) (hs : 0 < zs.length → ∃ go, A = some ⟨go, 0, none⟩) (hl : zs.length ≤ 9223372036854775807) : Rd .u8 w A zs.length zs := by
  refine ⟨rfl, hl, fun h0 => ?_⟩
  obtain ⟨go, rfl⟩ := hs h0
  obtain ⟨arr, h1, h2, h3⟩ := h go rfl
  exact ⟨_, rfl, fun j hj => by rw [add_plain, cell_of_row w go j arr 5 (0, 0) h1]; exact h3 j (Nat.zero_le _) hj⟩
/-- a round of the second loop -/
structure L2 (w wr : World) (base g : Nat) (q : QS) (B gd n : Nat) (pt : Array Value) : Prop where
  oq : OQ wr base g q (· ∈ [B, gd])
  b : Below base w wr
  p : wr.heap[B]? = some (.cells pt 36 (0, 0))
  d : ∃ arr : Array Value, wr.heap[gd]? = some (.cells arr 5 (0, 0)) ∧ n ≤ arr.size
  ne : B ≠ gd
  l : base ≤ gd
theorem L2.set {w wr : World} {base g B gd n k : Nat} {q : QS} {pt : Array Value} {v : Value} (h : L2 w wr base g q B gd n pt) : L2 w (wr.setCell ⟨gd, k, none⟩ v) base g q B gd n pt := by
  obtain ⟨arr, h1, h2⟩ := h.d
  exact ⟨h.oq.set gd k v (by simp), h.b.setCell h.l _, by rw [heap_setCell_other wr ⟨gd, k, none⟩ B v (fun e => h.ne e)]; exact h.p, ⟨_, heap_setCell_same wr gd k arr 5 v h1, by simpa using h2⟩, h.ne, h.l⟩
theorem own_arr {w w' : World} {gd cd n : Nat} {xs : List Int} (h : w'.ownsRow w.heap.size 5 1 (.slice (some ⟨gd, 0, none⟩) n cd) n (nums8 xs)) : ∃ arr : Array Value, w'.heap[gd]? = some (.cells arr 5 (0, 0)) ∧ n ≤ arr.size ∧ w.heap.size ≤ gd ∧ gd < w'.heap.size := by
  rcases h.2 with ⟨h1, _⟩ | ⟨g', cap, cur, h1, hb, hh, hcap, hm, hsz, htk⟩
  · cases h1
  injection h1 with h1 h2 h3
  obtain rfl : gd = g' := by injection h1 with h1; injection h1
  exact ⟨cur, hh, by simp at hsz; omega, hb, lt_of_heap hh⟩
theorem noF {F : Nat → Prop} {w : World} {base g : Nat} {q : QS} (h : OQ w base g q F) : OQ w base g q (· ∈ ([] : List Nat)) := h.mono fun b hb => by cases hb
set_option maxHeartbeats 8000000 in
set_option maxRecDepth 100000 in
theorem walk_own_bad (A : Option Addr) (n c : Nat) (zs : List Int) (w : World) (hz : Rd .u8 w A n zs ∧ (∀ y ∈ zs, (Lit.int .u8 y).wf = true) ∧ n ≤ c ∧ (A = none → c = 0)) (hy : n * 1 ≤ 140737488351232) (hbad : zs.length = 0 ∨ 65536 < zs.length) :
    Calls Try.prog 5 #[.slice A n c] w fun e w' => e = .returned (.bool true) ∧ Below w.heap.size w w' := by
  obtain ⟨hr, _, hnc, hnone⟩ := hz
  obtain rfl : n = zs.length := hr.1.symm
  obtain ⟨i0, hi0, hz0, hz1, hz2⟩ := info_parts info5
  have heq := fun (W : World) => Lib.run_eql_slice_nil (P := Try.prog) W 32 5 A zs.length c 0 0 Try.underlying32
  have HR := Lib.hid hr
  have HN := Lib.hid hnone
  have HY := Lib.hid hy
  have HBAD := Lib.hid hbad
  clear hbad
  clear hr hnone heq
  go_enter Try.func5, Try.ntmps5
  go_wp2_with fail
  refine (new_s 1 1073741824 w (by omega) (by omega) (by omega) (by omega)).mono ?_
  rintro e w1 ⟨g, rfl, hoq, hb1⟩
  have H1 := Lib.hid (show OQ w1 w.heap.size g Q0 (fun _ => False) from hoq.mono fun b hb => hb.elim)
  have HB1 := Lib.hid hb1
  clear hoq hb1
  go_wp2_with fail
  refine (awake_s _).mono ?_
  rintro e w2 ⟨rfl, hb2⟩
  have HB2 := Lib.hid (show Below w.heap.size w w2 from HB1.out.trans (hb2.mono HB1.out.size))
  have H2 := Lib.hid (H1.out.none hb2)
  clear hb2
  go_wp2_with (at_builtin; refine wpList_append_rd8 rfl _ _ _ rfl w2.heap.size 5 i0 Try.underlying32 hi0 hz0 hz1 hz2 _ 0 [] rfl (own8_empty w2 w2.heap.size 5 (Nat.le_refl _)) A zs.length c zs rfl ((Rd.below HR.out HB2.out).below (by repeat (first | with_reducible exact Below.refl _ _ | with_reducible assumption | with_reducible refine Below.drew ?_ | with_reducible refine below_dN ?_ _ | with_reducible refine Below.setCell ?_ (by first | omega | (simp; done) | (simp; omega)) _ | with_reducible refine below_al ?_ (by first | omega | (simp; done) | (simp; omega)) _ | exact Below.refl _ _ | assumption | refine Below.drew ?_ | refine below_dN ?_ _ | refine Below.setCell ?_ (by first | omega | (simp; done) | (simp; omega)) _ | refine below_al ?_ (by first | omega | (simp; done) | (simp; omega)) _ | refine below_tr (by assumption) ?_ (by first | omega | (simp; done) | (simp; omega)) | fail))) HN.out (by have := HY.out; omega) (by simp) ?_; intro v' w3 hown hg)
  have hB3 : Below w2.heap.size w2 w3 := below_app (W := w2.alloc (.cells #[] 5)) (by repeat (first | with_reducible exact Below.refl _ _ | with_reducible assumption | with_reducible refine Below.drew ?_ | with_reducible refine below_dN ?_ _ | with_reducible refine Below.setCell ?_ (by first | omega | (simp; done) | (simp; omega)) _ | with_reducible refine below_al ?_ (by first | omega | (simp; done) | (simp; omega)) _ | exact Below.refl _ _ | assumption | refine Below.drew ?_ | refine below_dN ?_ _ | refine Below.setCell ?_ (by first | omega | (simp; done) | (simp; omega)) _ | refine below_al ?_ (by first | omega | (simp; done) | (simp; omega)) _ | refine below_tr (by assumption) ?_ (by first | omega | (simp; done) | (simp; omega)) | fail)) (by simp) (own8_empty w2 w2.heap.size 5 (Nat.le_refl _)) hg
  have hown : w3.ownsRow w2.heap.size 5 1 v' zs.length (nums8 zs) := by simpa using hown
  obtain ⟨A', c', rfl, hr3, ho3, hs3, hl3⟩ := own_row hown
  have HL := Lib.hid (show Lp w w3 w.heap.size g Q0 A' zs 0 from ⟨(H2.out.below hB3).mono fun b hb => .inr (hl3 b hb), HB2.out.trans (hB3.mono HB2.out.size), ho3, fun b hb => Nat.le_trans HB2.out.size (hl3 b hb)⟩)
  have HR3 := Lib.hid hr3
  have HS3 := Lib.hid hs3
  clear hown hg hB3 hr3 ho3 hs3 hl3 hi0 hz0 hz1 hz2
  refine (push_bad zs false A' c' HL.out.oq HR3.out HBAD.out).mono ?_
  intro e w4 hp
  obtain ⟨rfl, hst⟩ := id hp
  have HL4 := Lib.hid (show Lp w w4 w.heap.size g Q0 A' zs 0 from HL.out.push hp)
  have HR4 := Lib.hid (show Rd .u8 w4 A' zs.length zs from OwnAt.rd HL4.out.o HS3.out HR.out.2.1)
  clear hp hst
  go_wp2_with fail
  refine (push_bad zs true A' c' HL4.out.oq HR4.out HBAD.out).mono ?_
  intro e w5 hp
  obtain ⟨rfl, hst⟩ := id hp
  have HL5 := Lib.hid (show Lp w w5 w.heap.size g Q0 A' zs 0 from HL4.out.push hp)
  clear hp hst
  go_wp2
  go_loopw [40] (fun i wr => ∃ k : Nat, k ≤ zs.length ∧ i = .int .i64 k ∧ Hid (Lp w wr w.heap.size g Q0 A' zs k)) (fun i _ => zs.length - (intOf i).toNat)
  case atStart => exact ⟨0, by omega, rfl, HL5⟩
  case round =>
    obtain ⟨k, hk, rfl, HQ⟩ := hrel
    by_cases hlt : k < zs.length
    · obtain ⟨go, rfl⟩ := HS3.out (by omega)
      obtain ⟨ad, rfl, hc⟩ := HR.out.2.2 (by omega)
      obtain ⟨arr, o1, o2, o3⟩ := HQ.out.o go rfl
      have a1 : wr.cell? ⟨go, k, none⟩ = some (.int .u8 (rdI zs k)) := by rw [cell_of_row wr go k arr 5 (0, 0) o1]; exact o3 k (Nat.le_refl _) hlt
      have f1 : wr.frozen? ⟨go, k, none⟩ = false := frozen_of_row wr go k arr 5 o1
      have a2 : wr.cell? (ad.add k) = some (.int .u8 (rdI zs k)) := (HQ.out.b.cell (World.block_lt_of_cell? w _ (hc k hlt))).trans (hc k hlt)
      have hj0 : (0 : Int) ≤ (k : Int) := by omega
      have hj1 : (k : Int) < (zs.length : Int) := by omega
      have hgl := lt_of_heap o1
      clear hc o1 o2 o3
      go_wp2_with fail
      go_quiet (fail)
      go_wp2
      go_roundw
      case rel => exact ⟨k + 1, by omega, by go_num, Lib.hid ((HQ.out.drewN _).set)⟩
      case measure => simp [intOf]; omega
    · obtain rfl : k = zs.length := by omega
      rcases HBAD.out with hb | hb
      · go_wp2
        go_ret
        exact ⟨rfl, HQ.out.b⟩
      · have hz0 : ((zs.length : Int) == 0) = false := by rw [beq_eq_false_iff_ne]; omega
        go_wp2
        go_ret
        exact ⟨rfl, HQ.out.b⟩
set_option maxHeartbeats 8000000 in
set_option maxRecDepth 100000 in
theorem walk_own_ok (A : Option Addr) (n c : Nat) (zs : List Int) (w : World) (hz : Rd .u8 w A n zs ∧ (∀ y ∈ zs, (Lit.int .u8 y).wf = true) ∧ n ≤ c ∧ (A = none → c = 0)) (hy : n * 1 ≤ 140737488351232) (h0 : 0 < zs.length) (h1 : zs.length ≤ 65536) :
    Calls Try.prog 5 #[.slice A n c] w fun e w' => e = .returned (.bool true) ∧ Below w.heap.size w w' := by
  obtain ⟨hr, _, hnc, hnone⟩ := hz
  obtain rfl : n = zs.length := hr.1.symm
  obtain ⟨i0, hi0, hz0, hz1, hz2⟩ := info_parts info5
  have heq := fun (W : World) => Lib.run_eql_slice_nil (P := Try.prog) W 32 5 A zs.length c 0 0 Try.underlying32
  have HR := Lib.hid hr
  have HN := Lib.hid hnone
  have HY := Lib.hid hy
  clear hr hnone heq
  go_enter Try.func5, Try.ntmps5
  go_wp2_with fail
  refine (new_s 1 1073741824 w (by omega) (by omega) (by omega) (by omega)).mono ?_
  rintro e w1 ⟨g, rfl, hoq, hb1⟩
  have H1 := Lib.hid (show OQ w1 w.heap.size g Q0 (fun _ => False) from hoq.mono fun b hb => hb.elim)
  have HB1 := Lib.hid hb1
  clear hoq hb1
  go_wp2_with fail
  refine (awake_s _).mono ?_
  rintro e w2 ⟨rfl, hb2⟩
  have HB2 := Lib.hid (show Below w.heap.size w w2 from HB1.out.trans (hb2.mono HB1.out.size))
  have H2 := Lib.hid (H1.out.none hb2)
  clear hb2
  go_wp2_with (at_builtin; refine wpList_append_rd8 rfl _ _ _ rfl w2.heap.size 5 i0 Try.underlying32 hi0 hz0 hz1 hz2 _ 0 [] rfl (own8_empty w2 w2.heap.size 5 (Nat.le_refl _)) A zs.length c zs rfl ((Rd.below HR.out HB2.out).below (by repeat (first | with_reducible exact Below.refl _ _ | with_reducible assumption | with_reducible refine Below.drew ?_ | with_reducible refine below_dN ?_ _ | with_reducible refine Below.setCell ?_ (by first | omega | (simp; done) | (simp; omega)) _ | with_reducible refine below_al ?_ (by first | omega | (simp; done) | (simp; omega)) _ | exact Below.refl _ _ | assumption | refine Below.drew ?_ | refine below_dN ?_ _ | refine Below.setCell ?_ (by first | omega | (simp; done) | (simp; omega)) _ | refine below_al ?_ (by first | omega | (simp; done) | (simp; omega)) _ | refine below_tr (by assumption) ?_ (by first | omega | (simp; done) | (simp; omega)) | fail))) HN.out (by have := HY.out; omega) (by simp) ?_; intro v' w3 hown hg)
  have hB3 : Below w2.heap.size w2 w3 := below_app (W := w2.alloc (.cells #[] 5)) (by repeat (first | with_reducible exact Below.refl _ _ | with_reducible assumption | with_reducible refine Below.drew ?_ | with_reducible refine below_dN ?_ _ | with_reducible refine Below.setCell ?_ (by first | omega | (simp; done) | (simp; omega)) _ | with_reducible refine below_al ?_ (by first | omega | (simp; done) | (simp; omega)) _ | exact Below.refl _ _ | assumption | refine Below.drew ?_ | refine below_dN ?_ _ | refine Below.setCell ?_ (by first | omega | (simp; done) | (simp; omega)) _ | refine below_al ?_ (by first | omega | (simp; done) | (simp; omega)) _ | refine below_tr (by assumption) ?_ (by first | omega | (simp; done) | (simp; omega)) | fail)) (by simp) (own8_empty w2 w2.heap.size 5 (Nat.le_refl _)) hg
  have hown : w3.ownsRow w2.heap.size 5 1 v' zs.length (nums8 zs) := by simpa using hown
  obtain ⟨A', c', rfl, hr3, ho3, hs3, hl3⟩ := own_row hown
  have HL := Lib.hid (show Lp w w3 w.heap.size g Q0 A' zs 0 from ⟨(H2.out.below hB3).mono fun b hb => .inr (hl3 b hb), HB2.out.trans (hB3.mono HB2.out.size), ho3, fun b hb => Nat.le_trans HB2.out.size (hl3 b hb)⟩)
  have HR3 := Lib.hid hr3
  have HS3 := Lib.hid hs3
  clear hown hg hB3 hr3 ho3 hs3 hl3 hi0 hz0 hz1 hz2
  refine (push_q1 zs A' c' HL.out.oq HR3.out h0 h1).mono ?_
  intro e w4 hp
  obtain ⟨rfl, hst⟩ := id hp
  have HL4 := Lib.hid (show Lp w w4 w.heap.size g (Q1 zs) A' zs 0 from HL.out.push hp)
  have HR4 := Lib.hid (show Rd .u8 w4 A' zs.length zs from OwnAt.rd HL4.out.o HS3.out HR.out.2.1)
  clear hp hst
  go_wp2_with fail
  refine (push_q2 zs A' c' HL4.out.oq HR4.out h0 h1).mono ?_
  intro e w5 hp
  obtain ⟨rfl, hst⟩ := id hp
  have HL5 := Lib.hid (show Lp w w5 w.heap.size g (Q2 zs) A' zs 0 from HL4.out.push hp)
  clear hp hst
  go_wp2
  go_loopw [40] (fun i wr => ∃ k : Nat, k ≤ zs.length ∧ i = .int .i64 k ∧ Hid (Lp w wr w.heap.size g (Q2 zs) A' zs k)) (fun i _ => zs.length - (intOf i).toNat)
  case atStart => exact ⟨0, by omega, rfl, HL5⟩
  case round =>
    obtain ⟨k, hk, rfl, HQ⟩ := hrel
    by_cases hlt : k < zs.length
    · obtain ⟨go, rfl⟩ := HS3.out (by omega)
      obtain ⟨ad, rfl, hc⟩ := HR.out.2.2 (by omega)
      obtain ⟨arr, o1, o2, o3⟩ := HQ.out.o go rfl
      have a1 : wr.cell? ⟨go, k, none⟩ = some (.int .u8 (rdI zs k)) := by rw [cell_of_row wr go k arr 5 (0, 0) o1]; exact o3 k (Nat.le_refl _) hlt
      have f1 : wr.frozen? ⟨go, k, none⟩ = false := frozen_of_row wr go k arr 5 o1
      have a2 : wr.cell? (ad.add k) = some (.int .u8 (rdI zs k)) := (HQ.out.b.cell (World.block_lt_of_cell? w _ (hc k hlt))).trans (hc k hlt)
      have hj0 : (0 : Int) ≤ (k : Int) := by omega
      have hj1 : (k : Int) < (zs.length : Int) := by omega
      have hgl := lt_of_heap o1
      clear hc o1 o2 o3
      go_wp2_with fail
      go_quiet (fail)
      go_wp2
      go_roundw
      case rel => exact ⟨k + 1, by omega, by go_num, Lib.hid ((HQ.out.drewN _).set)⟩
      case measure => simp [intOf]; omega
    · obtain rfl : k = zs.length := by omega
      have hz0 : ((zs.length : Int) == 0) = false := by rw [beq_eq_false_iff_ne]; omega
      go_wp2_with fail
      refine (take1 zs h0 h1 (noF HQ.out.oq)).mono ?_
      rintro e w6 ⟨g6, c6, rfl, hst, hown, hoq⟩
      obtain ⟨arr6, d1, d2, d3, d4⟩ := own_arr hown
      obtain ⟨h2, hp, hk, hb2, hs⟩ := take_then (s := 0) (ssn := 0) (proto := 0) (un := false) (bg := true) (en := true) hst hown hoq (fun b hb => by cases hb) h0
      have H6 := Lib.hid h2
      have P6 := Lib.hid hp
      have HB6 := Lib.hid (HQ.out.b.trans hb2)
      have D6 := Lib.hid d1
      have hqb := HQ.out.b.size
      clear hst hown hoq h2 hp hk hb2 hs d1 hz0
      go_upto_region 16 with fail
      refine name_world ?_
      intro w7 hw7
      have h7 : L2 w w7 w.heap.size g (Q3 zs) w6.heap.size g6 zs.length (part' 0 0 0 false (some ⟨g6, 0, none⟩) zs.length c6 true true) := by
        rw [hw7]
        exact ⟨H6.out, HB6.out, P6.out.1, ⟨arr6, (al_old _ _ _ d4).trans D6.out, d2⟩, by omega, by omega⟩
      have cv : (convert 32 9 (.slice (some ⟨g6, 0, none⟩) zs.length c6)).run Try.prog w7 = .ok (.string (strOfNums zs)) w7 := by
        rw [hw7]
        exact conv_rd P6.out.2.1 32 5 Try.underlying32 Try.underlying5 9 Try.underlying9
      have y4 : w7.cell? ⟨w6.heap.size, 4, none⟩ = some (.slice (some ⟨g6, 0, none⟩) zs.length c6) := cell_of_row w7 _ 4 _ 36 (0, 0) h7.p
      have H7 := Lib.hid h7
      clear hw7 h7 d2 d3 d4
      go_wp2_with fail
      clear cv y4
      go_loopw [90] (fun i wr => ∃ k : Nat, k ≤ zs.length ∧ i = .int .i64 k ∧ Hid (L2 w wr w.heap.size g (Q3 zs) w6.heap.size g6 zs.length (part' 0 0 0 false (some ⟨g6, 0, none⟩) zs.length c6 true true))) (fun i _ => zs.length - (intOf i).toNat)
      case atStart => exact ⟨0, by omega, rfl, H7⟩
      case round =>
        obtain ⟨k, hk, rfl, HQ7⟩ := hrel
        by_cases hlt : k < zs.length
        · obtain ⟨arr, o1, o2⟩ := HQ7.out.d
          have y4 : wr.cell? ⟨w6.heap.size, 4, none⟩ = some (.slice (some ⟨g6, 0, none⟩) zs.length c6) := cell_of_row _ _ 4 _ 36 (0, 0) HQ7.out.p
          have hka : k < arr.size := by omega
          have a1 : wr.cell? ⟨g6, k, none⟩ = some arr[k] := by rw [cell_of_row _ g6 k arr 5 (0, 0) o1]; exact Array.getElem?_eq_getElem hka
          have f1 : wr.frozen? ⟨g6, k, none⟩ = false := frozen_of_row _ g6 k arr 5 o1
          have hj0 : (0 : Int) ≤ (k : Int) := by omega
          have hj1 : (k : Int) < (zs.length : Int) := by omega
          clear o1 o2
          go_wp2
          go_roundw
          case rel => exact ⟨k + 1, by omega, by go_num, Lib.hid HQ7.out.set⟩
          case measure => simp [intOf]; omega
        · obtain rfl : k = zs.length := by omega
          go_wp2_with fail
          refine (take2 zs h0 h1 (noF HQ7.out.oq)).mono ?_
          rintro e w8 ⟨g8, c8, rfl, hst, hown, hoq⟩
          obtain ⟨h2, hp, hk, hb2, hs⟩ := take_then (s := 0) (ssn := 0) (proto := 0) (un := true) (bg := true) (en := true) hst hown hoq (fun b hb => by cases hb) h0
          have P8 := Lib.hid hp
          have HB8 := Lib.hid (HQ7.out.b.trans hb2)
          clear hst hown hoq h2 hp hk hb2 hs
          go_upto_region 23 with fail
          refine name_world ?_
          intro w9 hw9
          have hb9 : Below w.heap.size w w9 := by rw [hw9]; exact HB8.out
          have hp9 : PC w9 w8.heap.size (part' 0 0 0 true (some ⟨g8, 0, none⟩) zs.length c8 true true) g8 zs := by rw [hw9]; exact P8.out
          have cv8 : (convert 32 9 (.slice (some ⟨g8, 0, none⟩) zs.length c8)).run Try.prog w9 = .ok (.string (strOfNums zs)) w9 := conv_rd hp9.2.1 32 5 Try.underlying32 Try.underlying5 9 Try.underlying9
          have cvd : (convert 32 9 (.slice A zs.length c)).run Try.prog w9 = .ok (.string (strOfNums zs)) w9 := conv_rd (Rd.below HR.out hb9) 32 5 Try.underlying32 Try.underlying5 9 Try.underlying9
          have y4 : w9.cell? ⟨w8.heap.size, 4, none⟩ = some (.slice (some ⟨g8, 0, none⟩) zs.length c8) := cell_of_row w9 _ 4 _ 36 (0, 0) hp9.1
          have HB9 := Lib.hid hb9
          clear hw9 hb9 hp9
          go_wp2
          go_ret
          exact ⟨rfl, HB9.out⟩
theorem walk_StreamsOwn (A : Option Addr) (n c : Nat) (zs : List Int) (w : World) (hz : Rd .u8 w A n zs ∧ (∀ y ∈ zs, (Lit.int .u8 y).wf = true) ∧ n ≤ c ∧ (A = none → c = 0)) (hy : n * 1 ≤ 140737488351232) :
    Calls Try.prog 5 #[.slice A n c] w fun e w' => e = .returned (.bool true) ∧ Below w.heap.size w w' := by
  by_cases hb : zs.length = 0 ∨ 65536 < zs.length
  · exact walk_own_bad A n c zs w hz hy hb
  · exact walk_own_ok A n c zs w hz hy (by omega) (by omega)
