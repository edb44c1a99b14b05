/- Layer 16: awake. -/
import Derived.Test.YtbppdgekjdpgiaaX
namespace Go.Proofs.Ytbppdgekjdpgiaa.C
open Go.RowKit
set_option linter.unusedVariables false
set_option linter.unusedSimpArgs false
attribute [local go_sem high] max2_mx min2_mn max_two min_two
attribute [local go_sem ↓] Go.wp_at_zero Go.wp_at_succ

/-- a piece lies at B, its bytes at gd -/
def PC (w : World) (B : Nat) (pt : Array Value) (gd : Nat) (xs : List Int) : Prop :=
  w.heap[B]? = some (.cells pt 36 (0, 0)) ∧ Rd .u8 w (some ⟨gd, 0, none⟩) xs.length xs ∧ gd < w.heap.size
theorem PC.keep {w w' : World} {B gd : Nat} {pt : Array Value} {xs : List Int} (h : PC w B pt gd xs) (hB : w'.heap[B]? = w.heap[B]?) (hg : w'.heap[gd]? = w.heap[gd]?) (hs : w.heap.size ≤ w'.heap.size) : PC w' B pt gd xs := by
  obtain ⟨h1, h2, h3⟩ := h
  refine ⟨hB.trans h1, ⟨h2.1, h2.2.1, fun h0 => ?_⟩, Nat.lt_of_lt_of_le h3 hs⟩
  obtain ⟨ad, e, hc⟩ := h2.2.2 h0
  obtain rfl := Option.some.inj e
  exact ⟨_, rfl, fun j hj => (World.cell?_of_block (w := w) (w' := w') (by rw [block_add]; exact hg)).trans (hc j hj)⟩
theorem PC.below {w w' : World} {B gd : Nat} {pt : Array Value} {xs : List Int} (h : PC w B pt gd xs) (hb : Below w.heap.size w w') : PC w' B pt gd xs :=
  h.keep (hb.block _ (lt_of_heap h.1)) (hb.block _ h.2.2) hb.size
/-- behind a push: what is foreign is foreign still -/
theorem push_then {w w' : World} {base g : Nat} {q : QS} {l : List Nat} {n : Int} {e : Ending} (h : PushS base g q (· ∈ l) n w e w') (hl : ∀ b ∈ l, b < w.heap.size) :
    OQ w' base g q (· ∈ l) ∧ Below base w w' ∧ ∀ b ∈ l, w'.heap[b]? = w.heap[b]? :=
  ⟨h.2.same hl, h.2.below, fun b hb => h.2.keep b (hl b hb) hb⟩
/-- behind a take whose piece is laid into a block of its own -/
theorem take_then {w w' : World} {base g : Nat} {q' : QS} {l : List Nat} {s ssn proto : Int} {un : Bool} {xs : List Int} {bg en : Bool} {gd cd : Nat} (hst : Stp w w' base g q' (· ∈ l)) (hown : w'.ownsRow w.heap.size 5 1 (.slice (some ⟨gd, 0, none⟩) xs.length cd) xs.length (nums8 xs)) (hoq : OQ w' base g q' (fun b => b = gd ∨ (b < w.heap.size ∧ b ∈ l))) (hl : ∀ b ∈ l, b < w.heap.size) (h0 : 0 < xs.length) :
    OQ (w'.alloc (.cells (part' s ssn proto un (some ⟨gd, 0, none⟩) xs.length cd bg en) 36)) base g q' (· ∈ w'.heap.size :: gd :: l) ∧ PC (w'.alloc (.cells (part' s ssn proto un (some ⟨gd, 0, none⟩) xs.length cd bg en) 36)) w'.heap.size (part' s ssn proto un (some ⟨gd, 0, none⟩) xs.length cd bg en) gd xs ∧
      (∀ b ∈ l, (w'.alloc (.cells (part' s ssn proto un (some ⟨gd, 0, none⟩) xs.length cd bg en) 36)).heap[b]? = w.heap[b]?) ∧ Below base w (w'.alloc (.cells (part' s ssn proto un (some ⟨gd, 0, none⟩) xs.length cd bg en) 36)) ∧ w.heap.size ≤ w'.heap.size := by
  have hal : Below w'.heap.size w' (w'.alloc (.cells (part' s ssn proto un (some ⟨gd, 0, none⟩) xs.length cd bg en) 36)) := (Below.refl _ _).alloc (Nat.le_refl _) _
  have hsz := hst.below.size
  obtain ⟨h1, h2, h3⟩ := own8_rd hown
  have hgd : gd < w'.heap.size := by
    obtain ⟨ad, e, hc⟩ := h1.2.2 h0
    obtain rfl := Option.some.inj e
    have := World.block_lt_of_cell? _ _ (hc 0 h0)
    rwa [block_add] at this
  refine ⟨(hoq.below hal).mono fun b hb => ?_, ⟨heap_alloc_new _ _, h1.below hal, by simp; omega⟩, fun b hb => (hal.block b (Nat.lt_of_lt_of_le (hl b hb) hsz)).trans (hst.keep b (hl b hb) hb), hst.below.trans (hal.mono (Nat.le_trans hoq.1 (Nat.le_refl _))), hsz⟩
  rcases List.mem_cons.1 hb with rfl | hb
  · exact .inr (Nat.le_refl _)
  · rcases List.mem_cons.1 hb with rfl | hb
    · exact .inl ⟨hgd, .inl rfl⟩
    · exact .inl ⟨Nat.lt_of_lt_of_le (hl b hb) hsz, .inr ⟨hl b hb, hb⟩⟩
theorem lt2 {w : World} {B gd : Nat} {pt : Array Value} {xs : List Int} (h : PC w B pt gd xs) : ∀ b ∈ [B, gd], b < w.heap.size := by
  intro b hb
  simp at hb
  rcases hb with rfl | rfl
  · exact lt_of_heap h.1
  · exact h.2.2
theorem lt4 {w : World} {B gd B2 g2 : Nat} {pt p2 : Array Value} {xs x2 : List Int} (h : PC w B pt gd xs) (h2 : PC w B2 p2 g2 x2) : ∀ b ∈ [B, gd, B2, g2], b < w.heap.size := by
  intro b hb
  simp at hb
  rcases hb with rfl | rfl | rfl | rfl
  · exact lt_of_heap h.1
  · exact h.2.2
  · exact lt_of_heap h2.1
  · exact h2.2.2
theorem lt6 {w : World} {B gd B2 g2 B3 g3 : Nat} {pt p2 p3 : Array Value} {xs x2 x3 : List Int} (h : PC w B pt gd xs) (h2 : PC w B2 p2 g2 x2) (h3 : PC w B3 p3 g3 x3) : ∀ b ∈ [B, gd, B2, g2, B3, g3], b < w.heap.size := by
  intro b hb
  simp at hb
  rcases hb with rfl | rfl | rfl | rfl | rfl | rfl
  · exact lt_of_heap h.1
  · exact h.2.2
  · exact lt_of_heap h2.1
  · exact h2.2.2
  · exact lt_of_heap h3.1
  · exact h3.2.2
namespace Awake
def A0 : QS := newQ 2 10
def A1 : QS := pushQ A0 0 0 false [97, 98]
def A2 : QS := pushQ A1 1 0 false [99]
def A3 : QS := pushQ A2 0 0 false [100]
def m3 : Msg := ⟨0, 0, false, [97, 98], false⟩
def n3 : List Msg := [⟨0, 0, false, [100], false⟩]
def A4 : QS := takeQ A3 0 m3 n3 1
def m4 : Msg := ⟨0, 0, false, [98], true⟩
def A5 : QS := takeQ A4 0 m4 n3 9
def m5 : Msg := ⟨0, 0, false, [99], false⟩
def A6 : QS := takeQ A5 1 m5 [] 9
def m6 : Msg := ⟨0, 0, false, [100], false⟩
def A7 : QS := takeQ A6 0 m6 [] 9
theorem ok0 : Ok A0 := ⟨by decide, by decide, by decide, by decide, by decide, by decide, by decide, by decide, by decide, by decide, by decide⟩
theorem ok1 : Ok A1 := ⟨by decide, by decide, by decide, by decide, by decide, by decide, by decide, by decide, by decide, by decide, by decide⟩
theorem ok2 : Ok A2 := ⟨by decide, by decide, by decide, by decide, by decide, by decide, by decide, by decide, by decide, by decide, by decide⟩
theorem ok3 : Ok A3 := ⟨by decide, by decide, by decide, by decide, by decide, by decide, by decide, by decide, by decide, by decide, by decide⟩
theorem ok4 : Ok A4 := ⟨by decide, by decide, by decide, by decide, by decide, by decide, by decide, by decide, by decide, by decide, by decide⟩
theorem ok5 : Ok A5 := ⟨by decide, by decide, by decide, by decide, by decide, by decide, by decide, by decide, by decide, by decide, by decide⟩
theorem ok6 : Ok A6 := ⟨by decide, by decide, by decide, by decide, by decide, by decide, by decide, by decide, by decide, by decide, by decide⟩
theorem ok7 : Ok A7 := ⟨by decide, by decide, by decide, by decide, by decide, by decide, by decide, by decide, by decide, by decide, by decide⟩
theorem nx3 : nextF A3 = ((0 : Nat) : Int) := by decide
theorem nx4 : nextF A4 = ((0 : Nat) : Int) := by decide
theorem nx5 : nextF A5 = ((1 : Nat) : Int) := by decide
theorem nx6 : nextF A6 = ((0 : Nat) : Int) := by decide
end Awake
open Awake
set_option maxRecDepth 100000 in
set_option maxHeartbeats 4000000 in
theorem awake_s (w : World) : Calls Try.prog 10 #[] w fun e w' => e = .returned (.bool true) ∧ Below w.heap.size w w' := by
  have hu36 := Try.underlying36
  have hu34 := Try.underlying34
  go_enter Try.func10, Try.ntmps10
  go_wp2_with fail
  refine (new_s 2 10 w (by omega) (by omega) (by omega) (by omega)).mono ?_
  rintro e w1 ⟨g, rfl, h1, hb1⟩
  have H1 := Lib.hid (show OQ w1 w.heap.size g A0 (· ∈ ([] : List Nat)) from h1.mono fun b hb => by cases hb)
  have HB1 := Lib.hid hb1
  clear h1 hb1
  go_wp2_with fail
  refine (show Calls _ _ _ _ (PushS w.heap.size g A1 (· ∈ ([] : List Nat)) 0 _) from push_s (n := 2) (s := 0) ((H1.out.below ((Below.refl _ _).alloc (Nat.le_refl _) _)).mono (F' := (· ∈ ([] : List Nat))) fun b hb => by cases hb) ok0 _ 0 false _ [97, 98] (Rd_new w1 .u8 5 [97, 98] (by decide)) (by omega) (by decide)).mono ?_
  intro e w2 hp
  obtain ⟨rfl, _⟩ := id hp
  obtain ⟨h2, hb2, _⟩ := push_then hp (fun b hb => by cases hb)
  have H2 := Lib.hid h2
  have HB2 := Lib.hid (show Below w.heap.size w w2 from HB1.out.trans (((Below.refl w.heap.size w1).alloc HB1.out.size _).trans hb2))
  clear h2 hb2 hp
  go_wp2_with fail
  refine (show Calls _ _ _ _ (PushS w.heap.size g A2 (· ∈ ([] : List Nat)) 0 _) from push_s (n := 1) (s := 1) ((H2.out.below ((Below.refl _ _).alloc (Nat.le_refl _) _)).mono (F' := (· ∈ ([] : List Nat))) fun b hb => by cases hb) ok1 _ 0 false _ [99] (Rd_new w2 .u8 5 [99] (by decide)) (by omega) (by decide)).mono ?_
  intro e w3 hp
  obtain ⟨rfl, _⟩ := id hp
  obtain ⟨h2, hb2, _⟩ := push_then hp (fun b hb => by cases hb)
  have H3 := Lib.hid h2
  have HB3 := Lib.hid (show Below w.heap.size w w3 from HB2.out.trans (((Below.refl w.heap.size w2).alloc HB2.out.size _).trans hb2))
  clear h2 hb2 hp
  go_wp2_with fail
  refine (show Calls _ _ _ _ (PushS w.heap.size g A3 (· ∈ ([] : List Nat)) 0 _) from push_s (n := 1) (s := 0) ((H3.out.below ((Below.refl _ _).alloc (Nat.le_refl _) _)).mono (F' := (· ∈ ([] : List Nat))) fun b hb => by cases hb) ok2 _ 0 false _ [100] (Rd_new w3 .u8 5 [100] (by decide)) (by omega) (by decide)).mono ?_
  intro e w4 hp
  obtain ⟨rfl, _⟩ := id hp
  obtain ⟨h2, hb2, _⟩ := push_then hp (fun b hb => by cases hb)
  have H4 := Lib.hid h2
  have HB4 := Lib.hid (show Below w.heap.size w w4 from HB3.out.trans (((Below.refl w.heap.size w3).alloc HB3.out.size _).trans hb2))
  clear h2 hb2 hp
  go_wp2_with fail
  refine (show Calls _ _ _ _ (TakeS w.heap.size g A4 (· ∈ ([] : List Nat)) 0 0 0 false [97] true false _) from take_s H4.out ok3 0 m3 n3 1 nx3 (by decide) rfl (by decide) (by decide) (by decide) (by decide)).mono ?_
  rintro e w5 ⟨g5, c5, rfl, hst, hown, hoq⟩
  obtain ⟨h2, hp, hk, hb2, hs⟩ := take_then (s := 0) (ssn := 0) (proto := 0) (un := false) (bg := true) (en := false) hst hown hoq (fun b hb => by cases hb) (by decide)
  have H5 := Lib.hid h2
  have P5 := Lib.hid hp
  have HB5 := Lib.hid (HB4.out.trans hb2)
  clear hst hown hoq h2 hp hk hb2 hs
  go_wp2_with fail
  refine (show Calls _ _ _ _ (TakeS w.heap.size g A5 (· ∈ [w5.heap.size, g5]) 0 0 0 false [98] false true _) from take_s H5.out ok4 0 m4 n3 9 nx4 (by decide) rfl (by decide) (by decide) (by decide) (by decide)).mono ?_
  rintro e w6 ⟨g6, c6, rfl, hst, hown, hoq⟩
  obtain ⟨h2, hp, hk, hb2, hs⟩ := take_then (s := 0) (ssn := 0) (proto := 0) (un := false) (bg := false) (en := true) hst hown hoq (lt2 P5.out) (by decide)
  have H6 := Lib.hid h2
  have P6 := Lib.hid hp
  have HB6 := Lib.hid (HB5.out.trans hb2)
  have P5' := Lib.hid (P5.out.keep (hk _ (by simp)) (hk _ (by simp)) (Nat.le_trans hs (by simp)))
  clear hst hown hoq h2 hp hk hb2 hs
  go_wp2_with fail
  refine (show Calls _ _ _ _ (TakeS w.heap.size g A6 (· ∈ [w6.heap.size, g6, w5.heap.size, g5]) 1 0 0 false [99] true true _) from take_s H6.out ok5 1 m5 [] 9 nx5 (by decide) rfl (by decide) (by decide) (by decide) (by decide)).mono ?_
  rintro e w7 ⟨g7, c7, rfl, hst, hown, hoq⟩
  obtain ⟨h2, hp, hk, hb2, hs⟩ := take_then (s := 1) (ssn := 0) (proto := 0) (un := false) (bg := true) (en := true) hst hown hoq (lt4 P6.out P5'.out) (by decide)
  have H7 := Lib.hid h2
  have P7 := Lib.hid hp
  have HB7 := Lib.hid (HB6.out.trans hb2)
  have P6' := Lib.hid (P6.out.keep (hk _ (by simp)) (hk _ (by simp)) (Nat.le_trans hs (by simp)))
  have P5'' := Lib.hid (P5'.out.keep (hk _ (by simp)) (hk _ (by simp)) (Nat.le_trans hs (by simp)))
  clear hst hown hoq h2 hp hk hb2 hs
  go_wp2_with fail
  refine (show Calls _ _ _ _ (TakeS w.heap.size g A7 (· ∈ [w7.heap.size, g7, w6.heap.size, g6, w5.heap.size, g5]) 0 1 0 false [100] true true _) from take_s H7.out ok6 0 m6 [] 9 nx6 (by decide) rfl (by decide) (by decide) (by decide) (by decide)).mono ?_
  rintro e w8 ⟨g8, c8, rfl, hst, hown, hoq⟩
  obtain ⟨h2, hp, hk, hb2, hs⟩ := take_then (s := 0) (ssn := 1) (proto := 0) (un := false) (bg := true) (en := true) hst hown hoq (lt6 P7.out P6'.out P5''.out) (by decide)
  have H8 := Lib.hid h2
  have P8 := Lib.hid hp
  have HB8 := Lib.hid (HB7.out.trans hb2)
  have P7' := Lib.hid (P7.out.keep (hk _ (by simp)) (hk _ (by simp)) (Nat.le_trans hs (by simp)))
  have P6'' := Lib.hid (P6'.out.keep (hk _ (by simp)) (hk _ (by simp)) (Nat.le_trans hs (by simp)))
  have P5''' := Lib.hid (P5''.out.keep (hk _ (by simp)) (hk _ (by simp)) (Nat.le_trans hs (by simp)))
  clear hst hown hoq h2 hp hk hb2 hs
  go_upto_region 8 with fail
  refine name_world ?_
  intro wf hwf
  have p5 : PC wf w5.heap.size (part' 0 0 0 false (some ⟨g5, 0, none⟩) 1 c5 true false) g5 [97] := by rw [hwf]; exact P5'''.out
  have cv5 : (convert 32 9 (.slice (some ⟨g5, 0, none⟩) 1 c5)).run Try.prog wf = .ok (.string ⟨#[97]⟩) wf := conv_rd p5.2.1 32 5 Try.underlying32 Try.underlying5 9 Try.underlying9
  have q5 := p5.1
  unfold part' at q5
  have y50 := cell_of_row wf _ 0 _ 36 (0, 0) q5
  have y51 := cell_of_row wf _ 1 _ 36 (0, 0) q5
  have y52 := cell_of_row wf _ 2 _ 36 (0, 0) q5
  have y53 := cell_of_row wf _ 3 _ 36 (0, 0) q5
  have y54 := cell_of_row wf _ 4 _ 36 (0, 0) q5
  have y55 := cell_of_row wf _ 5 _ 36 (0, 0) q5
  have y56 := cell_of_row wf _ 6 _ 36 (0, 0) q5
  clear q5 p5
  have p6 : PC wf w6.heap.size (part' 0 0 0 false (some ⟨g6, 0, none⟩) 1 c6 false true) g6 [98] := by rw [hwf]; exact P6''.out
  have cv6 : (convert 32 9 (.slice (some ⟨g6, 0, none⟩) 1 c6)).run Try.prog wf = .ok (.string ⟨#[98]⟩) wf := conv_rd p6.2.1 32 5 Try.underlying32 Try.underlying5 9 Try.underlying9
  have q6 := p6.1
  unfold part' at q6
  have y60 := cell_of_row wf _ 0 _ 36 (0, 0) q6
  have y61 := cell_of_row wf _ 1 _ 36 (0, 0) q6
  have y62 := cell_of_row wf _ 2 _ 36 (0, 0) q6
  have y63 := cell_of_row wf _ 3 _ 36 (0, 0) q6
  have y64 := cell_of_row wf _ 4 _ 36 (0, 0) q6
  have y65 := cell_of_row wf _ 5 _ 36 (0, 0) q6
  have y66 := cell_of_row wf _ 6 _ 36 (0, 0) q6
  clear q6 p6
  have p7 : PC wf w7.heap.size (part' 1 0 0 false (some ⟨g7, 0, none⟩) 1 c7 true true) g7 [99] := by rw [hwf]; exact P7'.out
  have cv7 : (convert 32 9 (.slice (some ⟨g7, 0, none⟩) 1 c7)).run Try.prog wf = .ok (.string ⟨#[99]⟩) wf := conv_rd p7.2.1 32 5 Try.underlying32 Try.underlying5 9 Try.underlying9
  have q7 := p7.1
  unfold part' at q7
  have y70 := cell_of_row wf _ 0 _ 36 (0, 0) q7
  have y71 := cell_of_row wf _ 1 _ 36 (0, 0) q7
  have y72 := cell_of_row wf _ 2 _ 36 (0, 0) q7
  have y73 := cell_of_row wf _ 3 _ 36 (0, 0) q7
  have y74 := cell_of_row wf _ 4 _ 36 (0, 0) q7
  have y75 := cell_of_row wf _ 5 _ 36 (0, 0) q7
  have y76 := cell_of_row wf _ 6 _ 36 (0, 0) q7
  clear q7 p7
  have p8 : PC wf w8.heap.size (part' 0 1 0 false (some ⟨g8, 0, none⟩) 1 c8 true true) g8 [100] := by rw [hwf]; exact P8.out
  have cv8 : (convert 32 9 (.slice (some ⟨g8, 0, none⟩) 1 c8)).run Try.prog wf = .ok (.string ⟨#[100]⟩) wf := conv_rd p8.2.1 32 5 Try.underlying32 Try.underlying5 9 Try.underlying9
  have q8 := p8.1
  unfold part' at q8
  have y80 := cell_of_row wf _ 0 _ 36 (0, 0) q8
  have y81 := cell_of_row wf _ 1 _ 36 (0, 0) q8
  have y82 := cell_of_row wf _ 2 _ 36 (0, 0) q8
  have y83 := cell_of_row wf _ 3 _ 36 (0, 0) q8
  have y84 := cell_of_row wf _ 4 _ 36 (0, 0) q8
  have y85 := cell_of_row wf _ 5 _ 36 (0, 0) q8
  have y86 := cell_of_row wf _ 6 _ 36 (0, 0) q8
  clear q8 p8
  have h8 : OQ wf w.heap.size g A7 (· ∈ ([] : List Nat)) := by rw [hwf]; exact H8.out.mono fun b hb => by cases hb
  have hb8 : Below w.heap.size w wf := by rw [hwf]; exact HB8.out
  have H9 := Lib.hid h8
  have HB9 := Lib.hid hb8
  clear hwf h8 hb8
  go_wp2_with fail
  refine (held_s H9.out ok7).mono ?_
  rintro e w9 ⟨rfl, rfl⟩
  go_wp2
  go_ret
  exact ⟨rfl, HB9.out⟩
