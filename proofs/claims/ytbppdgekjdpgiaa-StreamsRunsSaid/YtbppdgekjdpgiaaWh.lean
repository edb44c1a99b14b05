/- The law StreamsWhole: the walk. -/
import Derived.Test.YtbppdgekjdpgiaaWl
namespace Go.Proofs.Ytbppdgekjdpgiaa.C
open Go.RowKit OpenStruct
set_option linter.unusedVariables false
set_option linter.unusedSimpArgs false
attribute [local go_sem high] max2_mx min2_mn max_two min_two
attribute [local go_sem ↓] Go.wp_at_zero Go.wp_at_succ

def fc5 (z : E34) : List Value := [.int .u16 z.f0, .int .u16 z.f1, .int .u32 z.f2, .bool z.f3, .slice z.f4.1 z.f4.2.1 z.f4.2.2.1]
theorem fc5_len (z : E34) : (fc5 z).length = 5 := rfl
theorem fc5_one (zs : List E34) : ∀ u ∈ zs.flatMap fc5, u.oneCell' = true := by
  intro u hu
  simp only [List.mem_flatMap] at hu
  obtain ⟨z, _, hz⟩ := hu
  simp [fc5] at hz
  rcases hz with rfl | rfl | rfl | rfl | rfl <;> rfl
theorem info34 : (Try.prog.info? 34).map (fun i => (i.zero, i.size, i.bytes)) = some (some (.agg #[.int .u16 0, .int .u16 0, .int .u32 0, .bool false, .slice none 0 0]), 5, 40) := by kernel_rfl
/-- two rows of one's own beside the queue -/
structure WM (w wr : World) (g : Nat) (q : QS) (S : List E34) (O : List Int) (v7 v9 : Value) : Prop where
  oq : OQ wr w.heap.size g q (fun b => v7.ownBlock = some b ∨ v9.ownBlock = some b)
  b : Below w.heap.size w wr
  s7 : wr.ownsRow w.heap.size 34 5 v7 S.length (S.flatMap fc5)
  s9 : wr.ownsRow w.heap.size 5 1 v9 O.length (nums8 O)
  ne : ∀ b, v7.ownBlock = some b → v9.ownBlock ≠ some b
section
variable {w wr w' : World} {g : Nat} {q q' : QS} {S S' : List E34} {O O' : List Int} {v7 v9 v' : Value}
theorem WM.lt (h : WM w wr g q S O v7 v9) : ∀ b, (v7.ownBlock = some b ∨ v9.ownBlock = some b) → b < wr.heap.size := fun b hb => by
  rcases hb with hb | hb
  · exact (own_lt h.s7 b hb).2
  · exact (own_lt h.s9 b hb).2
theorem WM.stp (h : WM w wr g q S O v7 v9) (hp : Stp wr w' w.heap.size g q' (fun b => v7.ownBlock = some b ∨ v9.ownBlock = some b)) : WM w w' g q' S O v7 v9 :=
  ⟨hp.same h.lt, h.b.trans hp.below, own_below h.s7 fun b hb => hp.keep b (h.lt b (.inl hb)) (.inl hb), own_below h.s9 fun b hb => hp.keep b (h.lt b (.inr hb)) (.inr hb), h.ne⟩
theorem WM.bel (h : WM w wr g q S O v7 v9) (hb : Below wr.heap.size wr w') : WM w w' g q S O v7 v9 :=
  h.stp (Stp.of h.oq hb)
theorem WM.grow7 (h : WM w wr g q S O v7 v9) (ho : w'.ownsRow w.heap.size 34 5 v' S'.length (S'.flatMap fc5)) (hg : wr.grownBy w' v7.ownBlock) (hv : v'.ownBlock = v7.ownBlock ∨ v'.ownBlock = some wr.heap.size) : WM w w' g q S' O v' v9 := by
  have hlt := h.lt
  refine ⟨(h.oq.grown hg fun b hb => .inl hb).mono fun b hb => ?_, h.b.grown hg h.oq.1 (fun b hb => (own_lt h.s7 b hb).1), ho, own_below h.s9 fun b hb => hg.block b (hlt b (.inr hb)) (fun e => h.ne b e.symm hb), fun b hb h9 => ?_⟩
  · rcases hb with hb | hb
    · rcases hv with e | e
      · rw [e] at hb; exact .inl ⟨hlt b (.inl hb), .inl hb⟩
      · rw [e] at hb; injection hb with hb; exact .inr (Nat.le_of_eq hb)
    · exact .inl ⟨hlt b (.inr hb), .inr hb⟩
  · rcases hv with e | e
    · rw [e] at hb; exact h.ne b hb h9
    · rw [e] at hb; injection hb with hb; have := hlt b (.inr h9); omega
theorem WM.grow9 (h : WM w wr g q S O v7 v9) (ho : w'.ownsRow w.heap.size 5 1 v' O'.length (nums8 O')) (hg : wr.grownBy w' v9.ownBlock) (hv : v'.ownBlock = v9.ownBlock ∨ ∃ b, v'.ownBlock = some b ∧ wr.heap.size ≤ b) : WM w w' g q S O' v7 v' := by
  have hlt := h.lt
  refine ⟨(h.oq.grown hg fun b hb => .inr hb).mono fun b hb => ?_, h.b.grown hg h.oq.1 (fun b hb => (own_lt h.s9 b hb).1), own_below h.s7 fun b hb => hg.block b (hlt b (.inl hb)) (fun e => h.ne b hb e.symm), ho, fun b hb h9 => ?_⟩
  · rcases hb with hb | hb
    · exact .inl ⟨hlt b (.inl hb), .inl hb⟩
    · rcases hv with e | ⟨b', e, e2⟩
      · rw [e] at hb; exact .inl ⟨hlt b (.inr hb), .inr hb⟩
      · rw [e] at hb; injection hb with hb; exact .inr (by omega)
  · rcases hv with e | ⟨b', e, e2⟩
    · rw [e] at h9; exact h.ne b hb h9
    · rw [e] at h9; injection h9 with h9; have := hlt b (.inl hb); omega
/-- a row made anew takes its place -/
theorem WM.new7 (h : WM w wr g q S O v7 v9) (hb : Below wr.heap.size wr w') (ho : w'.ownsRow wr.heap.size 34 5 v' S'.length (S'.flatMap fc5)) : WM w w' g q S' O v' v9 := by
  have hlt := h.lt
  refine ⟨(h.oq.below hb).mono fun b hb => ?_, h.b.trans (hb.mono h.oq.1), own_base ho h.oq.1, own_below h.s9 fun b hb9 => hb.block b (hlt b (.inr hb9)), fun b hb7 h9 => ?_⟩
  · rcases hb with hb | hb
    · exact .inr (own_lt ho b hb).1
    · exact .inl ⟨hlt b (.inr hb), .inr hb⟩
  · have := (own_lt ho b hb7).1
    have := hlt b (.inr h9)
    omega
/-- the open bytes are let go -/
theorem WM.nil9 (h : WM w wr g q S O v7 v9) : WM w wr g q S [] v7 (.slice none 0 0) :=
  ⟨h.oq.mono (fun b hb => hb.elim .inl (fun e => by cases e)), h.b, h.s7, ⟨rfl, .inl ⟨rfl, rfl⟩⟩, fun b hb h9 => by cases h9⟩
end
/-- .. and what they hold is what was sent -/
structure WS (w wr : World) (g : Nat) (q : QS) (S : List E34) (O : List Int) (v7 v9 : Value) : Prop where
  rel : Rel q S O
  m : WM w wr g q S O v7 v9
  d : ∀ z ∈ S, Rd .u8 w z.f4.1 z.f4.2.1 z.f4.2.2.2 ∧ z.f4.2.2.2.length ≤ 65536
  len : S.length ≤ 200
theorem WS.bel {w wr w' : World} {g : Nat} {q : QS} {S : List E34} {O : List Int} {v7 v9 : Value} (h : WS w wr g q S O v7 v9) (hb : Below wr.heap.size wr w') : WS w w' g q S O v7 v9 := ⟨h.rel, h.m.bel hb, h.d, h.len⟩
theorem take_no_l {w : World} {base g : Nat} {q : QS} {F : Nat → Prop} (h : OQ w base g q F) (k : Ok q) (x : Int) (hn : x < 1 ∨ nextF q < 0) :
    Calls Try.prog 12 #[.pointer (some ⟨g, 0, none⟩), .int .i64 x] w fun e w' => e = .returned (.tuple #[.agg #[.int .u16 0, .int .u16 0, .int .u32 0, .bool false, .slice none 0 0, .bool false, .bool false], .bool false]) ∧ Below w.heap.size w w' := take_no h k x hn
theorem takeQ_wai (q : QS) (s : Nat) (m : Msg) (ms : List Msg) (x : Nat) (h0 : 1 ≤ x) (h1 : 0 < m.data.length) : (takeQ q s m ms x).wai ≤ q.wai - 1 := by
  unfold takeQ
  split
  · simp only; omega
  · simp only; omega
theorem WS.olen {w wr : World} {g : Nat} {q : QS} {S : List E34} {O : List Int} {v7 v9 : Value} (h : WS w wr g q S O v7 v9) (s : Nat) (m : Msg) (ms : List Msg) (hs : s < q.n) (he : q.ss s = m :: ms) (hc : (q.opn = s ∧ m.begun = true) ∨ (q.opn < 0 ∧ m.begun = false)) : O.length + m.data.length ≤ 65536 := by
  have hh := h.rel.head hs he hc
  cases hf : flt S s with
  | nil => rw [hf] at hh; cases hh
  | cons z l =>
    rw [hf] at hh
    simp only [List.map_cons, List.cons.injEq, key, Prod.mk.injEq] at hh
    have hz : z ∈ S := by
      have : z ∈ flt S s := by rw [hf]; exact List.mem_cons_self ..
      exact (List.mem_filter.1 this).1
    have := (h.d z hz).2
    rw [hh.1.2.2, List.length_append] at this
    exact this
theorem own_rd {w : World} {base n : Nat} {A : Option Addr} {c : Nat} {xs : List Int} (h : w.ownsRow base 5 1 (.slice A n c) n (nums8 xs)) : Rd .u8 w A n xs := by
  have hl : xs.length = n := by have := h.1; simpa [nums8] using this
  obtain ⟨A', c', e, h1, h2, h3, h4⟩ := own_form h
  injection e with e1 _ e2
  subst e1 e2
  refine ⟨hl, by simp only [maxLen] at h2; omega, fun h0 => ?_⟩
  cases A with
  | none => have := (h3 rfl).1; omega
  | some ad =>
    obtain ⟨g, rfl, _, hc⟩ := h4 ad rfl
    refine ⟨_, rfl, fun j hj => ?_⟩
    rw [add_plain]
    refine hc j _ ?_
    simp [nums8, rdI, List.getElem?_eq_getElem (show j < xs.length by omega)]
theorem own_gt {w : World} {base : Nat} {e : TypeId} {size : Nat} {v : Value} {n : Nat} {xs : List Value} {B : Nat} (h : w.ownsRow base e size v n xs) (hB : w.heap.size ≤ B) : v.ownBlock ≠ some B := fun e => by
  have := (own_lt h B e).2
  omega
set_option maxHeartbeats 8000000 in
set_option maxRecDepth 100000 in
theorem walk_StreamsWhole (a : Option Addr) (len cap : Nat) (zs : List E34) (a2 : Option Addr) (len2 cap2 : Nat) (ns : List Int) (w : World) (hz : Row34 w a len cap zs) (hn : Rd .i64 w a2 len2 ns ∧ (∀ y ∈ ns, (Lit.int .i64 y).wf = true) ∧ len2 ≤ cap2 ∧ (a2 = none → cap2 = 0)) (hy : len2 * 8 ≤ 140737488351232) :
    Calls Try.prog 3 #[.slice a len cap, .slice a2 len2 cap2] w fun e w' => e = .returned (.bool true) ∧ Below w.heap.size w w' := by
  clear hy
  obtain ⟨_, hlc, hlen, hnone, hsome, hat⟩ := hz
  obtain ⟨hn1, hn2, hn3, hn4⟩ := hn
  have HSOME := Lib.hid hsome
  have HAT := Lib.hid hat
  have HNS := Lib.hid hn1
  have HNW := Lib.hid hn2
  clear hnone hsome hat hn1 hn2 hn4
  obtain ⟨i0, hi0, hz0, hz1, hz2⟩ := info_parts info34
  obtain ⟨i5, hi5, hz50, hz51, hz52⟩ := info_parts info5
  have HI := Lib.hid (show _ ∧ _ ∧ _ ∧ _ from ⟨hi0, hz0, hz1, hz2⟩)
  have HI5 := Lib.hid (show _ ∧ _ ∧ _ ∧ _ from ⟨hi5, hz50, hz51, hz52⟩)
  clear hi0 hz0 hz1 hz2 hi5 hz50 hz51 hz52
  have hu36 := Try.underlying36
  have hu34 := Try.underlying34
  go_enter Try.func3, Try.ntmps3
  go_wp2_with fail
  refine (new_s 8 1073741824 w (by omega) (by omega) (by omega) (by omega)).mono ?_
  rintro e w1 ⟨g, rfl, hoq, hb1⟩
  have h1 : WS w w1 g (newQ 8 1073741824) [] [] (.slice none 0 0) (.slice none 0 0) :=
    ⟨Rel.new, ⟨hoq.mono fun b hb => (by rcases hb with hb | hb <;> cases hb), hb1, ⟨rfl, .inl ⟨rfl, rfl⟩⟩, ⟨rfl, .inl ⟨rfl, rfl⟩⟩, fun b hb => by cases hb⟩, (fun z hz => by cases hz), by decide⟩
  have H1 := Lib.hid h1
  clear hoq hb1 h1
  go_wp2_with fail
  refine (awake_s _).mono ?_
  rintro e w2 ⟨rfl, hb2⟩
  have H2 := Lib.hid (H1.out.bel hb2)
  clear hb2
  go_wp2
  go_loopw [7, 8] (fun v7 i wr => ∃ (k : Nat) (q : QS) (S : List E34) (A7 : Option Addr) (c7 : Nat), k ≤ len ∧ k ≤ 200 ∧ i = .int .i64 k ∧ v7 = .slice A7 S.length c7 ∧ Hid (S.length ≤ k ∧ WS w wr g q S [] (.slice A7 S.length c7) (.slice none 0 0))) (fun _ i _ => len - (intOf i).toNat)
  case atStart => exact ⟨0, _, _, _, _, by omega, by omega, rfl, rfl, Lib.hid ⟨by decide, H2.out⟩⟩
  case round =>
    obtain ⟨k, q, S, A7, c7, hk, hk2, rfl, rfl, HQ⟩ := hrel
    go_upto_region 6 with fail
    go_cut [38] (fun s38 wx => ∃ b : Bool, s38 = .bool b ∧ Hid (b = true ↔ (k < len ∧ k < 200)) ∧ wr = wx)
    case first =>
      by_cases h1 : k < len
      · by_cases h2 : k < 200
        · go_wp2
          go_meet
          exact ⟨_, rfl, Lib.hid (by simp; omega), rfl⟩
        · go_wp2
          go_meet
          exact ⟨_, rfl, Lib.hid (by simp; omega), rfl⟩
      · go_wp2
        go_meet
        exact ⟨_, rfl, Lib.hid (by simp; omega), rfl⟩
    case rest =>
    obtain ⟨bb, rfl, HBB, rfl⟩ := hcut
    cases bb with
    | true =>
      obtain ⟨hlt, hlt2⟩ := HBB.out.1 rfl
      obtain ⟨ad, rfl⟩ := HSOME.out (by omega)
      obtain ⟨e0, e1, e2, e3, e4, g0, g1, g2, g4⟩ := HAT.out ad rfl k hlt
      obtain ⟨z, hz⟩ : ∃ z, z = zs.getD k d34 := ⟨_, rfl⟩
      rw [← hz] at e0 e1 e2 e3 e4 g0 g4
      clear hz g1 g2
      obtain ⟨s0, s1⟩ := u16_range g0
      obtain ⟨sn, hsn⟩ : ∃ sn : Nat, z.f0 = (sn : Int) := ⟨z.f0.toNat, by omega⟩
      have hsn5 : sn ≤ 65535 := by omega
      rw [hsn] at e0
      have HSN := Lib.hid hsn
      have G4 := Lib.hid g4.1
      have E := Lib.hid (show _ ∧ _ ∧ _ ∧ _ ∧ _ from ⟨e0, e1, e2, e3, e4⟩)
      clear e0 e1 e2 e3 e4 g0 g4 hsn s0 s1
      have hbr := HQ.out.2.m.b
      obtain ⟨e0, e1, e2, e3, e4⟩ := E.out
      have e0' : wr.cell? (ad.add (k * 5)) = some (.int .u16 sn) := (hbr.cell (World.block_lt_of_cell? w _ e0)).trans e0
      have e2' : wr.cell? ⟨(ad.add (k * 5)).block, (ad.add (k * 5)).off + 2, none⟩ = some (.int .u32 z.f2) := (hbr.cell (World.block_lt_of_cell? w _ e2)).trans e2
      have e3' : wr.cell? ⟨(ad.add (k * 5)).block, (ad.add (k * 5)).off + 3, none⟩ = some (.bool z.f3) := (hbr.cell (World.block_lt_of_cell? w _ e3)).trans e3
      have e4' : wr.cell? ⟨(ad.add (k * 5)).block, (ad.add (k * 5)).off + 4, none⟩ = some (.slice z.f4.1 z.f4.2.1 z.f4.2.2.1) := (hbr.cell (World.block_lt_of_cell? w _ e4)).trans e4
      have hk3' := World.block_lt_of_cell? wr _ e0'
      have hk3 : ad.block < wr.heap.size := by have := hk3'; rwa [block_add] at this
      have hj0 : (0 : Int) ≤ (k : Int) := by omega
      have hj1 : (k : Int) < (len : Int) := by omega
      clear e0 e1 e2 e3 e4 hbr
      go_wp2_with fail
      go_still_tail 21, (by kernel_rfl)
      change wpList _ _ _ _ _ wr.drew
      go_wp2_with fail
      have HD := Lib.hid (HQ.out.2.bel (Below.refl _ _).drew)
      obtain ⟨En, hE⟩ : ∃ En, En = pushE q sn z.f4.2.1 := ⟨_, rfl⟩
      have hpa := push_any HD.out.m.oq HD.out.rel.i sn z.f4.2.1 z.f4.2.2.1 z.f2 z.f3 z.f4.1 z.f4.2.2.2 (Rd.below G4.out HD.out.m.b) hsn5
      rw [← hE] at hpa
      refine hpa.mono ?_
      clear hpa
      rintro e w5 ⟨rfl, hst⟩
      have HP := Lib.hid (HD.out.m.stp hst)
      clear hst e0' e2' e3' e4' hk3' hk3
      have hdl : z.f4.2.2.2.length = z.f4.2.1 := G4.out.1
      by_cases hE0 : En = 0
      · subst hE0
        have hq : pushR q sn z.f2 z.f3 z.f4.2.2.2 = pushQ q sn z.f2 z.f3 z.f4.2.2.2 := by unfold pushR; rw [hdl, ← hE, if_pos rfl]
        have HP2 := Lib.hid (show WM w w5 g (pushQ q sn z.f2 z.f3 z.f4.2.2.2) S [] (.slice A7 S.length c7) (.slice none 0 0) by rw [← hq]; exact HP.out)
        have HREL := Lib.hid (HD.out.rel.push sn z (by rw [hdl, ← hE]) HSN.out)
        have HDL := Lib.hid (show z.f4.2.2.2.length ≤ 65536 from by have := (pushE_0 hE.symm).2.2.1; omega)
        have hbr := HP2.out.b
        obtain ⟨e0, e1, e2, e3, e4⟩ := E.out
        have e0' : w5.cell? (ad.add (k * 5)) = some (.int .u16 sn) := (hbr.cell (World.block_lt_of_cell? w _ e0)).trans e0
        have e1' : w5.cell? ⟨(ad.add (k * 5)).block, (ad.add (k * 5)).off + 1, none⟩ = some (.int .u16 z.f1) := (hbr.cell (World.block_lt_of_cell? w _ e1)).trans e1
        have e2' : w5.cell? ⟨(ad.add (k * 5)).block, (ad.add (k * 5)).off + 2, none⟩ = some (.int .u32 z.f2) := (hbr.cell (World.block_lt_of_cell? w _ e2)).trans e2
        have e3' : w5.cell? ⟨(ad.add (k * 5)).block, (ad.add (k * 5)).off + 3, none⟩ = some (.bool z.f3) := (hbr.cell (World.block_lt_of_cell? w _ e3)).trans e3
        have e4' : w5.cell? ⟨(ad.add (k * 5)).block, (ad.add (k * 5)).off + 4, none⟩ = some (.slice z.f4.1 z.f4.2.1 z.f4.2.2.1) := (hbr.cell (World.block_lt_of_cell? w _ e4)).trans e4
        clear hE hq hdl e0 e1 e2 e3 e4 hbr
        have HSL := Lib.hid (show S.length ≤ k from HQ.out.1)
        have hSL := HSL.out
        have hsrc : Src (w5.alloc (.cells #[.int .u16 sn, .int .u16 z.f1, .int .u32 z.f2, .bool z.f3, .slice z.f4.1 z.f4.2.1 z.f4.2.2.1] 34)) (some ⟨w5.heap.size, 0, none⟩) 1 5 (fc5 z) := by
          refine ⟨rfl, fun ad' e => ?_, fun e => by cases e⟩
          obtain rfl := Option.some.inj e
          have h := World.news_of_block (heap_alloc_new w5 (.cells #[.int .u16 sn, .int .u16 z.f1, .int .u32 z.f2, .bool z.f3, .slice z.f4.1 z.f4.2.1 z.f4.2.2.1] 34))
          rw [← HSN.out] at h ⊢
          exact h
        have hown6 : (w5.alloc (.cells #[.int .u16 sn, .int .u16 z.f1, .int .u32 z.f2, .bool z.f3, .slice z.f4.1 z.f4.2.1 z.f4.2.2.1] 34)).ownsRow w.heap.size 34 5 (.slice A7 S.length c7) S.length (S.flatMap fc5) := own_below HP2.out.s7 fun b hb => al_old _ _ _ (HP2.out.lt b (.inl hb))
        have hbs : w.heap.size ≤ (w5.alloc (.cells #[.int .u16 sn, .int .u16 z.f1, .int .u32 z.f2, .bool z.f3, .slice z.f4.1 z.f4.2.1 z.f4.2.2.1] 34)).heap.size := by have := HP2.out.b.size; simp; omega
        have HSRC := Lib.hid hsrc
        have HOWN6 := Lib.hid hown6
        have HBS := Lib.hid hbs
        clear hsrc hown6 hbs
        go_wp2_with (at_builtin; go_loud (refine wpList_append_src rfl _ _ _ rfl w.heap.size 34 i0 _ 5 40 Try.underlying22 HI.out.1 HI.out.2.1 HI.out.2.2.1 HI.out.2.2.2 rfl (by omega) _ S.length (S.flatMap fc5) rfl HOWN6.out _ 1 1 (fc5 z) rfl HSRC.out (fun e => by cases e) (fun u hu => fc5_one [z] u (by simpa using hu)) (by simp only [maxLen]; omega) (by omega) HBS.out ?_); intro v' w6 hown hg hv)
        obtain ⟨A', c', rfl, _⟩ := own_form hown
        have hm6 := (HP2.out.bel ((Below.refl _ _).alloc (Nat.le_refl _) _)).grow7 (S' := S ++ [z]) (by rw [List.length_append, List.flatMap_append]; simpa using hown) hg hv
        have h6 : WS w w6 g (pushQ q sn z.f2 z.f3 z.f4.2.2.2) (S ++ [z]) [] (.slice A' (S.length + 1) c') (.slice none 0 0) :=
          ⟨HREL.out, hm6, fun y hy => by
            rcases List.mem_append.1 hy with hy | hy
            · exact HD.out.d y hy
            · simp at hy
              subst hy
              exact ⟨G4.out, HDL.out⟩, by simp; omega⟩
        have H6 := Lib.hid h6
        clear hown hg hv hm6 h6
        go_roundw
        case rel => exact ⟨k + 1, _, S ++ [z], A', c', by omega, by omega, by go_num, by simp, Lib.hid ⟨by simp; omega, by simpa using H6.out⟩⟩
        case measure => simp [intOf]; omega
      · have hq : pushR q sn z.f2 z.f3 z.f4.2.2.2 = q := by unfold pushR; rw [hdl, ← hE, if_neg hE0]
        have HP2 := Lib.hid (show WM w w5 g q S [] (.slice A7 S.length c7) (.slice none 0 0) by rw [← hq]; exact HP.out)
        have b0 : (En == 0) = false := by simpa using hE0
        have b1 : (En != 0) = true := by simpa using hE0
        clear hE hE0 hq hdl
        go_wp2
        go_roundw
        case rel => exact ⟨k + 1, q, S, A7, c7, by omega, by omega, by go_num, rfl, Lib.hid ⟨by have := HQ.out.1; omega, HD.out.rel, HP2.out, HD.out.d, HD.out.len⟩⟩
        case measure => simp [intOf]; omega
    | false =>
      clear HBB
      go_wp2
      have H0 := Lib.hid (show WS w wr g q S [] (.slice A7 S.length c7) (.slice none 0 0) from HQ.out.2)
      have hkw0 : q.wai ≤ 1073741824 := by have := H0.out.rel.i.ok; have h2 := this.wt; have h3 := this.t0; have h4 := this.m1; omega
      clear HQ HSOME HAT
      go_loopw [7, 9, 10] (fun v7 v9 i wr => ∃ (k : Nat) (q : QS) (S : List E34) (O : List Int) (A7 : Option Addr) (c7 : Nat) (A9 : Option Addr) (c9 : Nat), i = .int .i64 k ∧ v7 = .slice A7 S.length c7 ∧ v9 = .slice A9 O.length c9 ∧ (k : Int) + q.wai ≤ 1073741824 ∧ Hid (WS w wr g q S O (.slice A7 S.length c7) (.slice A9 O.length c9))) (fun _ _ i _ => 1073741824 - (intOf i).toNat)
      case atStart => exact ⟨0, q, S, [], A7, c7, none, 0, rfl, rfl, rfl, by omega, H0⟩
      case round =>
        clear H0 hkw0
        obtain ⟨k, q, S, O, A7, c7, A9, c9, rfl, rfl, rfl, hkw, HQ⟩ := hrel
        have hbr := HQ.out.m.b
        have hk0 : (0 : Int) ≤ (k : Int) := by omega
        have hk1 : (k : Int) ≤ 1073741824 := by have := HQ.out.rel.i.ok.w0; omega
        go_upto_region 14 with fail
        go_cut [83] (fun s83 wx => ∃ b : Bool, s83 = .bool b ∧ Hid (b = true ↔ (k < len2 ∧ 0 < rdI ns k)) ∧ wr = wx)
        case first =>
          by_cases h1 : k < len2
          · obtain ⟨ad2, rfl, hc⟩ := HNS.out.2.2 (by omega)
            have a2 : wr.cell? (ad2.add k) = some (.int .i64 (rdI ns k)) := (hbr.cell (World.block_lt_of_cell? w _ (hc k h1))).trans (hc k h1)
            have hkl : (k : Int) < (len2 : Int) := by omega
            clear hc
            by_cases h2 : 0 < rdI ns k
            · go_wp2
              go_meet
              exact ⟨_, rfl, Lib.hid (by simp; omega), rfl⟩
            · go_wp2
              go_meet
              exact ⟨_, rfl, Lib.hid (by simp; omega), rfl⟩
          · go_wp2
            go_meet
            exact ⟨_, rfl, Lib.hid (by simp; omega), rfl⟩
        case rest =>
        obtain ⟨bb, rfl, HBB, rfl⟩ := hcut
        go_upto_if 83 with fail
        go_cut [11] (fun s11 wx => ∃ x : Nat, s11 = .int .i64 x ∧ 1 ≤ x ∧ wr = wx)
        case first =>
          cases bb with
          | true =>
            obtain ⟨h1, h2⟩ := HBB.out.1 rfl
            obtain ⟨ad2, rfl, hc⟩ := HNS.out.2.2 (by omega)
            have a2 : wr.cell? (ad2.add k) = some (.int .i64 (rdI ns k)) := (hbr.cell (World.block_lt_of_cell? w _ (hc k h1))).trans (hc k h1)
            have hkl : (k : Int) < (len2 : Int) := by omega
            clear hc
            go_wp2
            go_meet
            exact ⟨(rdI ns k).toNat, by rw [Int.toNat_of_nonneg (by omega)], by omega, rfl⟩
          | false =>
            go_wp2
            go_meet
            exact ⟨1048576, rfl, by omega, rfl⟩
        case rest =>
        obtain ⟨x, rfl, hx1, rfl⟩ := hcut
        clear HBB
        rcases next_cases HQ.out.rel.i with ⟨h1, _⟩ | ⟨s, m, ms, h1, h2, h3, h4⟩
        · obtain ⟨rfl, rfl, hw0⟩ := HQ.out.rel.none (by omega)
          have HN := Lib.hid (show nextF q < 0 by omega)
          clear h1
          go_wp2_with fail
          refine (take_no_l HQ.out.m.oq HQ.out.rel.i.ok x (.inr HN.out)).mono ?_
          rintro e w3 ⟨rfl, hb3⟩
          have HQ3 := Lib.hid (HQ.out.bel hb3)
          clear hb3
          go_wp2_with fail
          refine (waiting_s (HQ3.out.bel (by repeat (first | with_reducible exact Below.refl _ _ | with_reducible assumption | with_reducible refine Below.drew ?_ | with_reducible refine below_dN ?_ _ | with_reducible refine Below.setCell ?_ (by first | omega | (simp; done) | (simp; omega)) _ | with_reducible refine below_al ?_ (by first | omega | (simp; done) | (simp; omega)) _ | exact Below.refl _ _ | assumption | refine Below.drew ?_ | refine below_dN ?_ _ | refine Below.setCell ?_ (by first | omega | (simp; done) | (simp; omega)) _ | refine below_al ?_ (by first | omega | (simp; done) | (simp; omega)) _ | refine below_tr (by assumption) ?_ (by first | omega | (simp; done) | (simp; omega)) | fail))).m.oq).mono ?_
          rintro e w4 ⟨rfl, rfl⟩
          go_wp2
          go_ret
          exact ⟨rfl, HQ3.out.m.b.trans (Below.alloc (Below.refl _ _) HQ3.out.m.b.size _)⟩
        · obtain ⟨k1, k2, k3⟩ := HQ.out.rel.i.head s h2 m ms h3
          have hc : (q.opn = s ∧ m.begun = true) ∨ (q.opn < 0 ∧ m.begun = false) := by
            rcases h4 with h4 | h4
            · exact .inl h4
            · exact .inr ⟨h4.1, h4.2.1⟩
          have ht := take_s HQ.out.m.oq HQ.out.rel.i.ok s m ms x h1 h2 h3 hx1 k1 k2 k3
          have hbg := HQ.out.rel.begun hc
          have hrm := fun hx => HQ.out.rel.mid h2 h3 hc x hx1 hx
          have hrf := fun hx => HQ.out.rel.fin h2 h3 hc x hx1 hx
          have hwq := takeQ_wai q s m ms x hx1 k1
          have HWQ := Lib.hid (show ((k + 1 : Nat) : Int) + (takeQ q s m ms x).wai ≤ 1073741824 by omega)
          obtain ⟨q', hq'⟩ : ∃ q', q' = takeQ q s m ms x := ⟨_, rfl⟩
          obtain ⟨xs, hxs⟩ : ∃ xs, xs = m.data.take x := ⟨_, rfl⟩
          obtain ⟨bg, hbg'⟩ : ∃ bg, bg = !m.begun := ⟨_, rfl⟩
          obtain ⟨sv, hsv⟩ : ∃ sv, sv = (begM q s m).ssn := ⟨_, rfl⟩
          rw [← hq', ← hxs, ← hbg', ← hsv] at ht
          rw [← hbg'] at hbg
          rw [← hq', ← hxs] at hrm
          rw [← hq'] at hrf HWQ
          have hxl : xs.length ≤ x := by rw [hxs, List.length_take]; omega
          have hxl0 : 0 < xs.length := by rw [hxs, List.length_take]; omega
          have hxm : xs.length ≤ m.data.length := by rw [hxs, List.length_take]; omega
          have hs8 : (s : Int) < 8 := by have := HQ.out.rel.n; omega
          have hOl : O.length + m.data.length ≤ 65536 := HQ.out.olen s m ms h2 h3 hc
          have hb1 : ((O.length : Int) == 0) = bg := by
            rw [hbg]
            by_cases e : O.length = 0
            · rw [e]; rfl
            · rw [decide_eq_false e, beq_eq_false_iff_ne]; omega
          have hb2 : ((xs.length : Int) == 0) = false := by rw [beq_eq_false_iff_ne]; omega
          have HRM := Lib.hid hrm
          have HRF := Lib.hid hrf
          have HT := Lib.hid ht
          have HXS := Lib.hid hxs
          have HC := Lib.hid hc
          have hs0 : (0 : Int) ≤ (s : Int) := by omega
          clear h1 h2 h3 h4 hc ht hbg hrm hrf hq' hxs hbg' hsv hwq k1 k3
          by_cases hfin : m.data.length ≤ x
          · rw [decide_eq_true hfin] at HT
            obtain ⟨aa, za, f1, f2, f3, f4, f5, f6, f7⟩ := HRF.out hfin
            have F1 := Lib.hid f1
            have F3 := Lib.hid f3
            have F6 := Lib.hid (show za.f4.2.2.2 = O ++ xs by rw [f6, HXS.out, List.take_of_length_le hfin])
            have F7 := Lib.hid f7
            have F45 := Lib.hid (show za.f2 = m.proto ∧ za.f3 = m.un from ⟨f4, f5⟩)
            have HZA := Lib.hid (HQ.out.d za (List.mem_of_getElem? f3))
            clear f1 f3 f4 f5 f6 f7 HRF HRM
            obtain ⟨g7, rfl⟩ : ∃ g7, A7 = some ⟨g7, 0, none⟩ := by
              obtain ⟨A, c, e, _, _, e2, e3⟩ := own_form HQ.out.m.s7
              injection e with e4 _ e5
              subst e4
              cases A7 with
              | none => have := (e2 rfl).1; omega
              | some ad => obtain ⟨g7, e6, _⟩ := e3 ad rfl; exact ⟨g7, by rw [e6]⟩
            have hSl : S.length ≤ 200 := HQ.out.len
            have hsl : (0 : Int) ≤ (S.length : Int) - 1 := by omega
            go_wp2_with fail
            refine (HT.out).mono ?_
            rintro e w3 ⟨gd, cd, rfl, hst, hown, hoq⟩
            have HM3 := Lib.hid (HQ.out.m.stp hst)
            have hrd := (own8_rd hown).1
            have hsrc : Src (w3.alloc (.cells #[.int .u16 s, .int .u16 sv, .int .u32 m.proto, .bool m.un, .slice (some ⟨gd, 0, none⟩) xs.length cd, .bool bg, .bool true] 36)) (some ⟨gd, 0, none⟩) xs.length 1 (nums8 xs) := by
              refine ⟨by simp [nums8], fun ad' e j u hj => ?_, fun e => by cases e⟩
              obtain rfl := Option.some.inj e
              obtain ⟨ad2, e2, hc⟩ := hrd.2.2 hxl0
              obtain rfl := Option.some.inj e2
              simp [nums8] at hj
              obtain ⟨y, hy, rfl⟩ := hj
              have hjl : j < xs.length := (List.getElem?_eq_some_iff.1 hy).1
              have := hc j hjl
              rw [((Below.refl w3.heap.size w3).alloc (Nat.le_refl _) _).cell (World.block_lt_of_cell? _ _ this), this]
              simp [rdI, hy]
            have hown6 : (w3.alloc (.cells #[.int .u16 s, .int .u16 sv, .int .u32 m.proto, .bool m.un, .slice (some ⟨gd, 0, none⟩) xs.length cd, .bool bg, .bool true] 36)).ownsRow w.heap.size 5 1 (.slice A9 O.length c9) O.length (nums8 O) := own_below HM3.out.s9 fun b hb => al_old _ _ _ (HM3.out.lt b (.inr hb))
            have hbs : w.heap.size ≤ (w3.alloc (.cells #[.int .u16 s, .int .u16 sv, .int .u32 m.proto, .bool m.un, .slice (some ⟨gd, 0, none⟩) xs.length cd, .bool bg, .bool true] 36)).heap.size := by have := HM3.out.b.size; simp; omega
            have HPT := Lib.hid (show ∀ w6, (w3.alloc (.cells #[.int .u16 s, .int .u16 sv, .int .u32 m.proto, .bool m.un, .slice (some ⟨gd, 0, none⟩) xs.length cd, .bool bg, .bool true] 36)).grownBy w6 (Value.slice A9 O.length c9).ownBlock → w6.heap[w3.heap.size]? = some (.cells #[.int .u16 s, .int .u16 sv, .int .u32 m.proto, .bool m.un, .slice (some ⟨gd, 0, none⟩) xs.length cd, .bool bg, .bool true] 36 (0, 0)) from fun w6 hg => (hg.block w3.heap.size (by simp) (fun e => own_gt HM3.out.s9 (Nat.le_refl _) e.symm)).trans (heap_alloc_new _ _))
            have HSRC := Lib.hid hsrc
            have HOWN6 := Lib.hid hown6
            have HBS := Lib.hid hbs
            have HRD := Lib.hid hrd
            clear hsrc hown6 hbs hst hown hoq hrd
            go_wp2_with (at_builtin; go_loud (refine wpList_append_src rfl _ _ _ rfl w.heap.size 5 i5 _ 1 1 Try.underlying32 HI5.out.1 HI5.out.2.1 HI5.out.2.2.1 HI5.out.2.2.2 rfl (by omega) _ O.length (nums8 O) rfl HOWN6.out _ xs.length cd (nums8 xs) rfl HSRC.out (fun e => by cases e) (fun u hu => by simp [nums8] at hu; obtain ⟨y, _, rfl⟩ := hu; rfl) (by simp only [maxLen]; omega) (by omega) HBS.out ?_); intro v' w6 hown hg hv; have hpt := HPT.out w6 hg; have y0 := cell_of_row w6 _ 0 _ 36 (0, 0) hpt; have y2 := cell_of_row w6 _ 2 _ 36 (0, 0) hpt; have y3 := cell_of_row w6 _ 3 _ 36 (0, 0) hpt; have y6 := cell_of_row w6 _ 6 _ 36 (0, 0) hpt; have HP6 := Lib.hid hpt; clear hpt)
            obtain ⟨A9', c9', rfl, _⟩ := own_form hown
            have hm6 := (HM3.out.bel ((Below.refl _ _).alloc (Nat.le_refl _) _)).grow9 (O' := O ++ xs) (by simpa [nums8] using hown) hg (hv.elim .inl fun e => .inr ⟨_, e, Nat.le_refl _⟩)
            have HM6 := Lib.hid hm6
            clear hown hg hv hm6
            go_loopw [14, 15] (fun at_ i wr => ∃ ij : Int, -1 ≤ ij ∧ ij < S.length ∧ i = .int .i64 ij ∧ at_ = .int .i64 (atJ S s (ij + 1).toNat) ∧ Hid (Below w6.heap.size w6 wr)) (fun _ i _ => (intOf i + 1).toNat)
            case atStart => exact ⟨(S.length : Int) - 1, by omega, by omega, rfl, by rw [show ((S.length : Int) - 1 + 1).toNat = S.length from by omega, atJ_end], Lib.hid (Below.refl _ _)⟩
            case round =>
              obtain ⟨ij, hi0, hi1, rfl, rfl, HBr⟩ := hrel
              have HMr := Lib.hid (HM6.out.bel HBr.out)
              obtain ⟨A, c, e, hcc, hcm, _, e3⟩ := own_form HMr.out.s7
              injection e with e4 _ e5
              subst e4 e5
              obtain ⟨g7', e6, _, hcell⟩ := e3 _ rfl
              injection e6 with e6
              subst e6
              have hpr := (HBr.out.block w3.heap.size (lt_of_heap HP6.out)).trans HP6.out
              have y0 := cell_of_row wr _ 0 _ 36 (0, 0) hpr
              have y2 := cell_of_row wr _ 2 _ 36 (0, 0) hpr
              have y3 := cell_of_row wr _ 3 _ 36 (0, 0) hpr
              have HCELL := Lib.hid hcell
              clear hpr hcell e3
              by_cases hneg : ij < 0
              · obtain rfl : ij = -1 := by omega
                rw [show ((-1 : Int) + 1).toNat = 0 from rfl, F1.out]
                have q2 : wr.cell? ⟨g7, aa * 5 + 2, none⟩ = some (.int .u32 m.proto) := by rw [← F45.out.1]; exact HCELL.out _ _ ((flat_get fc5_len S aa 2 za F3.out (by decide)).trans rfl)
                have q3 : wr.cell? ⟨g7, aa * 5 + 3, none⟩ = some (.bool m.un) := by rw [← F45.out.2]; exact HCELL.out _ _ ((flat_get fc5_len S aa 3 za F3.out (by decide)).trans rfl)
                have q4 : wr.cell? ⟨g7, aa * 5 + 4, none⟩ = some (.slice za.f4.1 za.f4.2.1 za.f4.2.2.1) := HCELL.out _ _ ((flat_get fc5_len S aa 4 za F3.out (by decide)).trans rfl)
                have cv1 : ∀ n, (convert 32 9 (.slice za.f4.1 za.f4.2.1 za.f4.2.2.1)).run Try.prog (wr.drewN n) = .ok (.string (strOfNums (O ++ xs))) (wr.drewN n) := fun n => by
                  rw [← F6.out]
                  exact conv_rd (Rd.below HZA.out.1 (below_dN HMr.out.b n)) 32 5 Try.underlying32 Try.underlying5 9 Try.underlying9
                have ha0 : (0 : Int) ≤ (aa : Int) := by omega
                have ha1 : (aa : Int) < (S.length : Int) := by omega
                clear HCELL
                have cv2 : ∀ n, (convert 32 9 (.slice A9' (O.length + xs.length) c9')).run Try.prog (wr.drewN n) = .ok (.string (strOfNums (O ++ xs))) (wr.drewN n) := fun n => conv_rd (own_rd (by have h := (HMr.out.bel (below_drewN _ _ n)).s9; rw [List.length_append] at h; exact h)) 32 5 Try.underlying32 Try.underlying5 9 Try.underlying9
                go_wp2_with fail
                go_quiet (fail)
                clear cv1 cv2 q2 q3 q4 y0 y2 y3
                go_upto_region 31 with fail
                refine name_world ?_
                intro wd hwd
                have hMd : WM w wd g q' S (O ++ xs) (.slice (some ⟨g7, 0, none⟩) S.length c7) (.slice A9' (O.length + xs.length) c9') := by rw [hwd]; exact HMr.out.bel (below_drewN _ _ _)
                have hg7 : g7 < wd.heap.size := (own_lt hMd.s7 g7 rfl).2
                have hown31 : (wd.alloc (.cells #[] 34)).ownsRow wd.heap.size 34 5 (.slice (some ⟨wd.heap.size, 0, none⟩) 0 0) 0 [] := World.ownsRow_lit (e := 34) (size := 5) wd #[] 0 (Nat.le_refl _) (by decide) rfl
                have hsrc31 : Src (wd.alloc (.cells #[] 34)) (some ⟨g7, 0, none⟩) aa 5 ((S.take aa).flatMap fc5) := by
                  rw [← flat_take fc5_len S aa (by omega)]
                  exact own_src_take (own_below hMd.s7 fun b hb => al_old _ _ _ (hMd.lt b (.inl hb))) (by omega)
                have hbs31 : wd.heap.size ≤ (wd.alloc (.cells #[] 34)).heap.size := by simp
                have ha2 : (aa : Int) ≤ (c7 : Int) := by omega
                have hnn : (some (⟨g7, 0, none⟩ : Addr)) = none → c7 = 0 := fun e => by cases e
                have HMd := Lib.hid hMd
                have HO31 := Lib.hid hown31
                have HS31 := Lib.hid hsrc31
                have HB31 := Lib.hid hbs31
                have HNN := Lib.hid hnn
                clear hwd hMd hown31 hsrc31 hbs31 hnn
                go_upto_region 32 with (at_builtin; go_loud (refine wpList_append_src rfl _ _ _ rfl wd.heap.size 34 i0 _ 5 40 Try.underlying22 HI.out.1 HI.out.2.1 HI.out.2.2.1 HI.out.2.2.2 rfl (by omega) _ 0 [] rfl HO31.out (some ⟨g7, 0, none⟩) aa c7 _ rfl HS31.out HNN.out (fc5_one _) (by simp only [maxLen]; omega) (by omega) HB31.out ?_); intro v16 w16 hown16 hg16 hv16)
                rw [List.nil_append, Nat.zero_add] at hown16
                have hb16 : Below wd.heap.size wd w16 := below_app (W := wd.alloc (.cells #[] 34)) (by repeat (first | with_reducible exact Below.refl _ _ | with_reducible assumption | with_reducible refine Below.drew ?_ | with_reducible refine below_dN ?_ _ | with_reducible refine Below.setCell ?_ (by first | omega | (simp; done) | (simp; omega)) _ | with_reducible refine below_al ?_ (by first | omega | (simp; done) | (simp; omega)) _ | exact Below.refl _ _ | assumption | refine Below.drew ?_ | refine below_dN ?_ _ | refine Below.setCell ?_ (by first | omega | (simp; done) | (simp; omega)) _ | refine below_al ?_ (by first | omega | (simp; done) | (simp; omega)) _ | refine below_tr (by assumption) ?_ (by first | omega | (simp; done) | (simp; omega)) | fail)) (by simp) (World.ownsRow_lit (e := 34) (size := 5) wd #[] 0 (Nat.le_refl _) (by decide) rfl) hg16
                obtain ⟨A16, c16, rfl, _⟩ := own_form hown16
                have hs7w : w16.ownsRow w.heap.size 34 5 (.slice (some ⟨g7, 0, none⟩) S.length c7) S.length (S.flatMap fc5) := own_below HMd.out.s7 fun b hb => hb16.block b (HMd.out.lt b (.inl hb))
                have hs1 : (aa : Int) + 1 ≤ (S.length : Int) := by omega
                have hbs16 := hb16.size
                have hfin2 : ∀ (A : Addr) (v' : Value) (w' : World), w'.ownsRow wd.heap.size 34 5 v' (aa + (S.length - (aa + 1))) ((S.take aa).flatMap fc5 ++ (S.drop (aa + 1)).flatMap fc5) → w16.grownBy w' (Value.slice A16 aa c16).ownBlock → ∃ A' c', v' = .slice A' (S.take aa ++ S.drop (aa + 1)).length c' ∧ WS w w' g q' (S.take aa ++ S.drop (aa + 1)) [] (.slice A' (S.take aa ++ S.drop (aa + 1)).length c') (.slice none 0 0) := by
                  intro A v' w' hown hg
                  have hlen' : aa + (S.length - (aa + 1)) = (S.take aa ++ S.drop (aa + 1)).length := by simp; omega
                  rw [hlen', ← List.flatMap_append] at hown
                  have hbw : Below wd.heap.size wd w' := hb16.grown hg hbs16 (fun b hb => (own_lt hown16 b hb).1)
                  have hmw := HMd.out.nil9.new7 hbw hown
                  obtain ⟨A', c', e, _⟩ := own_form hown
                  subst e
                  refine ⟨A', c', rfl, F7.out, hmw, fun y hy => HQ.out.d y ?_, by rw [← hlen']; omega⟩
                  rcases List.mem_append.1 hy with hy | hy
                  · exact List.mem_of_mem_take hy
                  · exact List.mem_of_mem_drop hy
                have HF2 := Lib.hid hfin2
                have HO16 := Lib.hid hown16
                have hsrcA : Src w16 (some ⟨g7, 0, none⟩) (S.length - (aa + 1)) 5 ((S.drop (aa + 1)).flatMap fc5) ∨ aa + 1 < S.length := by
                  by_cases e : aa + 1 = S.length
                  · left
                    rw [← flat_drop fc5_len S (aa + 1) (by omega)]
                    exact own_src hs7w (by omega) _ (.inr e)
                  · exact .inr (by omega)
                have hsrcB : Src w16 (some ⟨g7, (aa + 1) * 5, none⟩) (S.length - (aa + 1)) 5 ((S.drop (aa + 1)).flatMap fc5) := by
                  rw [← flat_drop fc5_len S (aa + 1) (by omega)]
                  exact own_src hs7w (by omega) _ (.inl rfl)
                have HSA := Lib.hid hsrcA
                have HSB := Lib.hid hsrcB
                clear hown16 hg16 hv16 hs7w hfin2 hsrcA hsrcB hb16
                by_cases hcap : c7 = aa + 1
                · have e0 : S.length - (aa + 1) = 0 := by omega
                  have hsa2 := HSA.out.elim id fun h => absurd h (by omega)
                  rw [e0] at hsa2
                  have HSA2 := Lib.hid hsa2
                  have HE0 := Lib.hid e0
                  clear hsa2 e0
                  subst hcap
                  go_wp2_with (at_builtin; go_loud (refine wpList_append_src rfl _ _ _ rfl wd.heap.size 34 i0 _ 5 40 Try.underlying22 HI.out.1 HI.out.2.1 HI.out.2.2.1 HI.out.2.2.2 rfl (by omega) _ aa _ rfl HO16.out _ _ _ ((S.drop (aa + 1)).flatMap fc5) rfl HSA2.out (fun e => by cases e) (fc5_one _) (by simp only [maxLen]; omega) (by omega) hbs16 ?_); intro v' w' hown hg hv)
                  obtain ⟨A', c', rfl, hws⟩ := HF2.out ⟨0, 0, none⟩ v' w' (by rw [HE0.out]; exact hown) hg
                  have HWS := Lib.hid hws
                  clear hown hg hv hws
                  go_roundw
                  case rel => exact ⟨k + 1, q', _, [], A', c', none, 0, by go_num, rfl, rfl, HWQ.out, HWS⟩
                  case measure => (have h8 := HWQ.out; have h9 := HWS.out.rel.i.ok.w0; simp [intOf]; omega)
                · have hcap' : ¬ (c7 : Int) = (aa : Int) + 1 := by omega
                  go_wp2_with (at_builtin; go_loud (refine wpList_append_src rfl _ _ _ rfl wd.heap.size 34 i0 _ 5 40 Try.underlying22 HI.out.1 HI.out.2.1 HI.out.2.2.1 HI.out.2.2.2 rfl (by omega) _ aa _ rfl HO16.out _ _ _ ((S.drop (aa + 1)).flatMap fc5) rfl HSB.out (fun e => by cases e) (fc5_one _) (by simp only [maxLen]; omega) (by omega) hbs16 ?_); intro v' w' hown hg hv)
                  obtain ⟨A', c', rfl, hws⟩ := HF2.out ⟨0, 0, none⟩ v' w' hown hg
                  have HWS := Lib.hid hws
                  clear hown hg hv hws
                  go_roundw
                  case rel => exact ⟨k + 1, q', _, [], A', c', none, 0, by go_num, rfl, rfl, HWQ.out, HWS⟩
                  case measure => (have h8 := HWQ.out; have h9 := HWS.out.rel.i.ok.w0; simp [intOf]; omega)
              · obtain ⟨j, rfl⟩ : ∃ j : Nat, ij = (j : Int) := ⟨ij.toNat, by omega⟩
                have hjl : j < S.length := by omega
                have hzj : S[j]? = some S[j] := List.getElem?_eq_getElem hjl
                generalize S[j] = zj at hzj
                have r0 : wr.cell? ⟨g7, j * 5, none⟩ = some (.int .u16 zj.f0) := HCELL.out _ _ ((flat_get fc5_len S j 0 zj hzj (by decide)).trans rfl)
                have hst := atJ_step S s j zj hzj
                rw [show ((j : Int) + 1).toNat = j + 1 from by omega]
                have HSTEP := Lib.hid hst
                have hj0 : (0 : Int) ≤ (j : Int) := by omega
                clear hst hzj HCELL y2 y3
                by_cases hze : zj.f0 = (s : Int)
                · rw [hze] at r0
                  have HZ := Lib.hid hze
                  clear hze
                  go_wp2_with fail
                  go_quiet (fail)
                  go_wp2
                  go_roundw
                  case rel => exact ⟨(j : Int) - 1, by omega, by omega, rfl, by rw [show ((j : Int) - 1 + 1).toNat = j from by omega, HSTEP.out, if_pos HZ.out], Lib.hid (below_dN HBr.out _)⟩
                  case measure => (simp [intOf] <;> omega)
                · have hb : (zj.f0 == (s : Int)) = false := by rw [beq_eq_false_iff_ne]; exact hze
                  have HZ := Lib.hid hze
                  clear hze
                  go_wp2_with fail
                  go_quiet (fail)
                  go_wp2
                  go_roundw
                  case rel => exact ⟨(j : Int) - 1, by omega, by omega, rfl, by rw [show ((j : Int) - 1 + 1).toNat = j from by omega, HSTEP.out, if_neg HZ.out], Lib.hid (below_dN HBr.out _)⟩
                  case measure => (simp [intOf] <;> omega)
          · rw [decide_eq_false hfin] at HT
            go_wp2_with fail
            refine (HT.out).mono ?_
            rintro e w3 ⟨gd, cd, rfl, hst, hown, hoq⟩
            have HM3 := Lib.hid (HQ.out.m.stp hst)
            have hrd := (own8_rd hown).1
            have hsrc : Src (w3.alloc (.cells #[.int .u16 s, .int .u16 sv, .int .u32 m.proto, .bool m.un, .slice (some ⟨gd, 0, none⟩) xs.length cd, .bool bg, .bool false] 36)) (some ⟨gd, 0, none⟩) xs.length 1 (nums8 xs) := by
              refine ⟨by simp [nums8], fun ad' e j u hj => ?_, fun e => by cases e⟩
              obtain rfl := Option.some.inj e
              obtain ⟨ad2, e2, hc⟩ := hrd.2.2 hxl0
              obtain rfl := Option.some.inj e2
              simp [nums8] at hj
              obtain ⟨y, hy, rfl⟩ := hj
              have hjl : j < xs.length := (List.getElem?_eq_some_iff.1 hy).1
              have := hc j hjl
              rw [((Below.refl w3.heap.size w3).alloc (Nat.le_refl _) _).cell (World.block_lt_of_cell? _ _ this), this]
              simp [rdI, hy]
            have hown6 : (w3.alloc (.cells #[.int .u16 s, .int .u16 sv, .int .u32 m.proto, .bool m.un, .slice (some ⟨gd, 0, none⟩) xs.length cd, .bool bg, .bool false] 36)).ownsRow w.heap.size 5 1 (.slice A9 O.length c9) O.length (nums8 O) := own_below HM3.out.s9 fun b hb => al_old _ _ _ (HM3.out.lt b (.inr hb))
            have hbs : w.heap.size ≤ (w3.alloc (.cells #[.int .u16 s, .int .u16 sv, .int .u32 m.proto, .bool m.un, .slice (some ⟨gd, 0, none⟩) xs.length cd, .bool bg, .bool false] 36)).heap.size := by have := HM3.out.b.size; simp; omega
            have HPT := Lib.hid (show ∀ w6, (w3.alloc (.cells #[.int .u16 s, .int .u16 sv, .int .u32 m.proto, .bool m.un, .slice (some ⟨gd, 0, none⟩) xs.length cd, .bool bg, .bool false] 36)).grownBy w6 (Value.slice A9 O.length c9).ownBlock → w6.heap[w3.heap.size]? = some (.cells #[.int .u16 s, .int .u16 sv, .int .u32 m.proto, .bool m.un, .slice (some ⟨gd, 0, none⟩) xs.length cd, .bool bg, .bool false] 36 (0, 0)) from fun w6 hg => (hg.block w3.heap.size (by simp) (fun e => own_gt HM3.out.s9 (Nat.le_refl _) e.symm)).trans (heap_alloc_new _ _))
            have HSRC := Lib.hid hsrc
            have HOWN6 := Lib.hid hown6
            have HBS := Lib.hid hbs
            have HRD := Lib.hid hrd
            clear hsrc hown6 hbs hst hown hoq hrd
            go_wp2_with (at_builtin; go_loud (refine wpList_append_src rfl _ _ _ rfl w.heap.size 5 i5 _ 1 1 Try.underlying32 HI5.out.1 HI5.out.2.1 HI5.out.2.2.1 HI5.out.2.2.2 rfl (by omega) _ O.length (nums8 O) rfl HOWN6.out _ xs.length cd (nums8 xs) rfl HSRC.out (fun e => by cases e) (fun u hu => by simp [nums8] at hu; obtain ⟨y, _, rfl⟩ := hu; rfl) (by simp only [maxLen]; omega) (by omega) HBS.out ?_); intro v' w6 hown hg hv; have hpt := HPT.out w6 hg; have y0 := cell_of_row w6 _ 0 _ 36 (0, 0) hpt; have y2 := cell_of_row w6 _ 2 _ 36 (0, 0) hpt; have y3 := cell_of_row w6 _ 3 _ 36 (0, 0) hpt; have y6 := cell_of_row w6 _ 6 _ 36 (0, 0) hpt; clear hpt)
            obtain ⟨A9', c9', rfl, _⟩ := own_form hown
            have hm6 := (HM3.out.bel ((Below.refl _ _).alloc (Nat.le_refl _) _)).grow9 (O' := O ++ xs) (by simpa [nums8] using hown) hg (hv.elim .inl fun e => .inr ⟨_, e, Nat.le_refl _⟩)
            have HM6 := Lib.hid hm6
            clear hown hg hv hm6
            have H6 := Lib.hid (show WS w w6 g q' S (O ++ xs) (.slice A7 S.length c7) (.slice A9' (O.length + xs.length) c9') from ⟨HRM.out (by omega), HM6.out, HQ.out.d, HQ.out.len⟩)
            clear HM6
            go_roundw
            case rel => exact ⟨k + 1, q', S, O ++ xs, A7, c7, A9', c9', by go_num, rfl, by simp, HWQ.out, by simpa using H6⟩
            case measure => (have h8 := HWQ.out; have h9 := H6.out.rel.i.ok.w0; simp [intOf]; omega)
