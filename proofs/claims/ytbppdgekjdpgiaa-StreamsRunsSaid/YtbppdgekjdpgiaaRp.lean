/- Layer 16: the reference's Push. -/
import Derived.Test.YtbppdgekjdpgiaaRn
namespace Go.Proofs.Ytbppdgekjdpgiaa.C
open Go.RowKit
set_option linter.unusedVariables false
set_option linter.unusedSimpArgs false
attribute [local go_sem high] max2_mx min2_mn max_two min_two
attribute [local go_sem ↓] Go.wp_at_zero Go.wp_at_succ

theorem info77 : (Try.prog.info? 77).map (fun i => (i.zero, i.size, i.bytes)) = some (some (.agg #[.int .u16 0, .int .u16 0, .int .u32 0, .bool false, .slice none 0 0, .int .i64 0]), 6, 48) := by kernel_rfl
section
variable {P : Program} {w : World} {o : Oper} {a : Act} {K : Act → World → Prop} {Q : Exit → Act → World → Prop}
theorem wp_append_src (s x : Operand) (t : TypeId)
    (ho : o.op = .call { callee := .builtin .append, args := #[s, x], argTypes := #[t, t] })
    (base : Nat) (e : TypeId) (i : TypeInfo) (z : Value) (size bytes : Nat) (ht : P.underlying t = some (.slice e)) (hi : P.info? e = some i) (hz : i.zero = some z)
    (hsize : i.size = size) (hby : i.bytes = bytes) (hzs : z.cells.size = size) (hsz : 0 < size)
    (v : Value) (n : Nat) (xs : List Value) (hs : a.eval s = v) (hown : w.ownsRow base e size v n xs)
    (A : Option Addr) (m c : Nat) (news : List Value) (hx : a.eval x = .slice A m c) (hr : Src w A m size news) (hA : A = none → c = 0) (h1 : ∀ u ∈ news, u.oneCell' = true)
    (h63 : n + m ≤ maxLen) (hbytes : (n + m) * bytes ≤ 140737488355328) (hbase : base ≤ w.heap.size)
    (h : ∀ v' w', w'.ownsRow base e size v' (n + m) (xs ++ news) → w.grownBy w' v.ownBlock → (v'.ownBlock = v.ownBlock ∨ v'.ownBlock = some w.heap.size) → K (a.put o.dst v') w') : Oper.wp P o a w K Q := by
  obtain ⟨r1, r2, r3⟩ := hr
  cases A with
  | none =>
    obtain rfl := hA rfl
    obtain rfl := r3 rfl
    have hn : news = [] := List.eq_nil_of_length_eq_zero (by simpa using r1)
    subst hn
    have hrun := run_append_owned_none (P := P) (w := w) base t o.type e i size ht hi v n xs hown
    unfold Oper.wp
    simp [execOp, ho, resolve, invoke, builtin, hs, hx, hrun, Result.andThen]
    exact h v w (by simpa using hown) (World.grownBy.refl w _) (.inl rfl)
  | some ad =>
    obtain ⟨v', w', hr, h2, h3, h4, h5⟩ := run_append_own_at (P := P) w base t o.type e i z size bytes ht hi hz hsize hby hzs hsz v n xs hown ad m c news r1 (r2 ad rfl) h1 h63 hbytes hbase
    unfold Oper.wp execOp
    simp only [ho, resolve, invoke, builtin, Sem.run_bind, Sem.run_pure, Result.andThen_ok, List.map_toArray, List.map_cons, List.map_nil, hs, hx, hr]
    exact h v' w' h2 h3 h5
end
/-- what a call of the reference leaves as it was -/
structure Rch (w w' : World) (base gr bN : Nat) (vL : Value) : Prop where
  b : Below base w w'
  k : ∀ b, b < w.heap.size → b ≠ gr → b ≠ bN → vL.ownBlock ≠ some b → w'.heap[b]? = w.heap[b]?
theorem Rch.bel {w w' : World} {base gr bN : Nat} {vL : Value} (hb : base ≤ w.heap.size) (h : Below w.heap.size w w') : Rch w w' base gr bN vL := ⟨h.mono hb, fun b hlt _ _ _ => h.block b hlt⟩
theorem Rd.toSrc {w : World} {A : Option Addr} {n : Nat} {xs : List Int} (h : Rd .u8 w A n xs) : Src w A n 1 (nums8 xs) ∨ n = 0 := by
  rcases Nat.eq_zero_or_pos n with h0 | h0
  · exact .inr h0
  · left
    obtain ⟨ad, rfl, hc⟩ := h.2.2 h0
    refine ⟨by simp [nums8, h.1], fun ad' e j u hj => ?_, fun e => by cases e⟩
    obtain rfl := Option.some.inj e
    simp [nums8] at hj
    obtain ⟨y, hy, rfl⟩ := hj
    have hjl : j < xs.length := (List.getElem?_eq_some_iff.1 hy).1
    rw [hc j (by rw [← h.1]; exact hjl)]
    simp [rdI, hy]
theorem Src.keep {w w' : World} {A : Option Addr} {m size : Nat} {news : List Value} (h : Src w A m size news) (hk : ∀ b, b < w.heap.size → w'.heap[b]? = w.heap[b]?) : Src w' A m size news := by
  refine ⟨h.1, fun ad e j u hj => ?_, h.2.2⟩
  have hx := h.2.1 ad e j u hj
  exact (World.cell?_of_block (w := w) (w' := w') (hk _ (World.block_lt_of_cell? w _ hx))).trans hx
/-- the list with an entry more -/
theorem RM.push {w w1 w2 w3 : World} {base gr : Nat} {r : RS} {vL v' : Value} {bN : Nat} (h : RM w base gr r vL bN) (hb1 : Below w.heap.size w w1) (e : Ent) (hd : Rd .u8 w1 e.A e.data.length e.data) (hc : e.data.length ≤ e.c) (hnn : e.A = none → e.c = 0) (hA : ∀ ad, e.A = some ad → w.heap.size ≤ ad.block ∧ ad.block < w1.heap.size) (hl : e.data.length ≤ 65536)
    (hb2 : Below w1.heap.size w1 w2) (hown : w3.ownsRow base 77 6 v' (r.L.length + 1) (r.L.flatMap ec ++ ec e)) (hg : w2.grownBy w3 vL.ownBlock) (hv : v'.ownBlock = vL.ownBlock ∨ v'.ownBlock = some w2.heap.size) :
    RM (w3.setCell ⟨gr, 2, none⟩ v') base gr (rpush r e) v' bN ∧ Rch w (w3.setCell ⟨gr, 2, none⟩ v') base gr bN vL ∧ ∀ b, v'.ownBlock = some b → b < w.heap.size → vL.ownBlock = some b := by
  have hlt := h.lt
  have z1 := hb1.size
  have z2 := hb2.size
  have hb12 : Below w.heap.size w w2 := hb1.trans (hb2.mono z1)
  have far : ∀ b, b < w2.heap.size → vL.ownBlock ≠ some b → w3.heap[b]? = w2.heap[b]? := fun b hb hne => hg.block b hb (fun e => hne e.symm)
  have set : ∀ b, b ≠ gr → (w3.setCell ⟨gr, 2, none⟩ v').heap[b]? = w3.heap[b]? := fun b hne => heap_setCell_other w3 ⟨gr, 2, none⟩ b v' (fun e => hne e)
  have hgr := (hlt gr (.inl rfl)).2
  have hbn := (hlt bN (.inr (.inl rfl))).2
  have hbl : ∀ b, vL.ownBlock = some b → b < w.heap.size := fun b hb => (hlt b (.inr (.inr (.inl hb)))).2
  have hv' : ∀ b, b < w.heap.size → v'.ownBlock = some b → vL.ownBlock = some b := fun b hb e => by
    rcases hv with h1 | h1
    · rw [← h1]; exact e
    · rw [h1] at e; injection e with e; omega
  have hgrown : Below base w w3 := (hb12.mono h.hb).grown hg (Nat.le_trans h.hb (by omega)) (fun b hb => (own_lt h.l b hb).1)
  have old : ∀ b, b < w.heap.size → b ≠ gr → vL.ownBlock ≠ some b → (w3.setCell ⟨gr, 2, none⟩ v').heap[b]? = w.heap[b]? := fun b hb h1 h2 => (set b h1).trans ((far b (by omega) h2).trans (hb12.block b hb))
  have dat : ∀ ad, e.A = some ad → (w3.setCell ⟨gr, 2, none⟩ v').heap[ad.block]? = w1.heap[ad.block]? := fun ad ea => by
    obtain ⟨a1, a2⟩ := hA ad ea
    exact (set _ (by omega)).trans ((far _ (by omega) (fun e => by have := hbl _ e; omega)).trans (hb2.block _ a2))
  refine ⟨{ g := ?_, l := ?_, s := ?_, d := fun y hy => ?_, dd := fun b hb => ?_, ne := h.ne, n1 := fun e => h.n1 (hv' gr hgr e), n2 := fun e => h.n2 (hv' bN hbn e), lo := h.lo, lo2 := h.lo2, hb := Nat.le_trans h.hb (by have := hg.size; simp; omega) }, ⟨hgrown.setCell h.lo _, fun b hb h1 _ h3 => old b hb h1 h3⟩, fun b hb hlt => hv' b hlt hb⟩
  · have e3 : w3.heap[gr]? = some (.cells (rcells r vL bN) 70 (0, 0)) := (far gr (by omega) h.n1).trans ((hb12.block gr hgr).trans h.g)
    rw [heap_setCell_same w3 gr 2 _ 70 v' e3]
    rfl
  · have : (rpush r e).L.length = r.L.length + 1 := by simp [rpush]
    rw [this, show (rpush r e).L.flatMap ec = r.L.flatMap ec ++ ec e from by simp [rpush]]
    exact own_below hown fun b hb => set b (fun e1 => h.n1 (hv' gr hgr (by rw [← e1]; exact hb)))
  · obtain ⟨arr, h1, h2⟩ := h.s
    exact ⟨arr, (old bN hbn h.ne.symm h.n2).trans h1, h2⟩
  · rcases List.mem_append.1 hy with hy | hy
    · obtain ⟨d1, d2, d3, d4⟩ := h.d y hy
      refine ⟨⟨d1.1, d1.2.1, fun h0 => ?_⟩, d2, d3, d4⟩
      obtain ⟨ad, e1, hc1⟩ := d1.2.2 h0
      obtain ⟨_, l2, l3, l4, l5⟩ := h.dd ad.block ⟨y, hy, ad, e1, rfl⟩
      exact ⟨ad, e1, fun j hj => (World.cell?_of_block (w := w) (by rw [block_add]; exact old _ l2 l3 l5)).trans (hc1 j hj)⟩
    · simp at hy
      subst hy
      refine ⟨⟨hd.1, hd.2.1, fun h0 => ?_⟩, hc, hnn, hl⟩
      obtain ⟨ad, e1, hc1⟩ := hd.2.2 h0
      exact ⟨ad, e1, fun j hj => (World.cell?_of_block (w := w1) (by rw [block_add]; exact dat ad e1)).trans (hc1 j hj)⟩
  · obtain ⟨y, hy, ad, e1, rfl⟩ := hb
    have hs3 := hg.size
    rcases List.mem_append.1 hy with hy | hy
    · obtain ⟨l1, l2, l3, l4, l5⟩ := h.dd ad.block ⟨y, hy, ad, e1, rfl⟩
      exact ⟨l1, by simp; omega, l3, l4, fun e2 => l5 (hv' _ l2 e2)⟩
    · simp at hy
      subst hy
      obtain ⟨a1, a2⟩ := hA ad e1
      refine ⟨Nat.le_trans h.hb a1, by simp; omega, by omega, by omega, fun e2 => ?_⟩
      rcases hv with h1 | h1
      · rw [h1] at e2; have := hbl _ e2; omega
      · rw [h1] at e2; injection e2 with e2; omega
theorem Rch.of_bel {w w2 w' : World} {base gr bN : Nat} {vL : Value} (h2 : Rch w2 w' base gr bN vL) (hb : base ≤ w.heap.size) (h : Below w.heap.size w w2) : Rch w w' base gr bN vL :=
  ⟨(h.mono hb).trans h2.b, fun b hlt h3 h4 h5 => (h2.k b (Nat.lt_of_lt_of_le hlt h.size) h3 h4 h5).trans (h.block b hlt)⟩
theorem ent_src (w : World) (e : Ent) : Src (w.alloc (.cells #[.int .u16 e.st, .int .u16 e.ssn, .int .u32 e.proto, .bool e.un, .slice e.A e.data.length e.c, .int .i64 e.at_] 77)) (some ⟨w.heap.size, 0, none⟩) 1 6 (ec e) := by
  refine ⟨rfl, fun ad' ea => ?_, fun e => by cases e⟩
  obtain rfl := Option.some.inj ea
  exact World.news_of_block (heap_alloc_new w _)
theorem nums8_one (xs : List Int) : ∀ u ∈ nums8 xs, u.oneCell' = true := fun u hu => by
  simp [nums8] at hu
  obtain ⟨y, _, rfl⟩ := hu
  rfl
section
variable {q : QS} {r : RS} {w : World} {base gr : Nat} {vL : Value} {bN : Nat}
/-- the reference's Push: its answer, what it leaves -/
def RPush (base gr bN : Nat) (vL : Value) (r : RS) (s : Nat) (proto : Int) (un : Bool) (xs : List Int) (n : Int) (w : World) (e : Ending) (w' : World) : Prop :=
  e = .returned (.int .i64 n) ∧ ((n ≠ 0 ∧ RM w' base gr r vL bN ∧ Below w.heap.size w w') ∨ (n = 0 ∧ ∃ A c vL', RM w' base gr (rpush r ⟨s, 0, proto, un, A, c, xs, 0⟩) vL' bN ∧ Rch w w' base gr bN vL ∧ (∀ ad, A = some ad → w.heap.size ≤ ad.block) ∧ ∀ b, vL'.ownBlock = some b → b < w.heap.size → vL.ownBlock = some b))
set_option maxHeartbeats 4000000 in
theorem rpush_ref (h : RM w base gr r vL bN) (k : RR q r) (s n c : Nat) (proto : Int) (un : Bool) (A : Option Addr) (xs : List Int) (hr : Rd .u8 w A n xs) (hnone : A = none → c = 0) (hs2 : s ≤ 65535) (hE : pushE q s n ≠ 0) :
    Calls Try.prog 24 #[.pointer (some ⟨gr, 0, none⟩), .int .u16 s, .int .u32 proto, .bool un, .slice A n c] w (RPush base gr bN vL r s proto un xs (pushE q s n) w) := by
  have hb := k.bounds
  have c0 := h.cells.c0
  have c1 := h.cells.c1
  have c5 := h.cells.c5
  have hkn := k.n
  have hn1 := hb.2.2.2.2.2.2.2
  have hs0 : (0 : Int) ≤ (s : Int) := by omega
  have hs1 : (s : Int) ≤ 65535 := by omega
  have H := Lib.hid h
  have hnl := hr.2.1
  by_cases h1 : q.n ≤ s
  · have e : pushE q s n = 160 := if_pos h1
    rw [e]
    have h1' : ((r.n : Nat) : Int) ≤ (s : Int) := by omega
    clear h k hr hb hE e h1 hkn
    go_enter Try.func24, Try.ntmps24
    go_wp2
    go_ret
    exact ⟨rfl, .inl ⟨by decide, H.out, Below.refl _ _⟩⟩
  · have h1' : (s : Int) < ((r.n : Nat) : Int) := by omega
    by_cases h2 : n = 0 ∨ 65536 < n
    · have e : pushE q s n = 2 := by unfold pushE; rw [if_neg h1, if_pos h2]
      rw [e]
      rcases h2 with h2 | h2
      · subst h2
        clear h k hr hb hE e h1 hkn
        go_enter Try.func24, Try.ntmps24
        go_wp2
        go_ret
        exact ⟨rfl, .inl ⟨by decide, H.out, Below.refl _ _⟩⟩
      · have hz : ((n : Int) == 0) = false := by rw [beq_eq_false_iff_ne]; omega
        clear h k hr hb hE e h1 hkn
        go_enter Try.func24, Try.ntmps24
        go_wp2
        go_ret
        exact ⟨rfl, .inl ⟨by decide, H.out, Below.refl _ _⟩⟩
    · by_cases h3 : q.lim - q.wai - q.tak < n
      · have e : pushE q s n = 161 := by unfold pushE; rw [if_neg h1, if_neg h2, if_pos h3]
        rw [e]
        have hz : ((n : Int) == 0) = false := by rw [beq_eq_false_iff_ne]; omega
        have hn3 : n ≤ 65536 := by omega
        have hwa := k.wai
        have hwo := k.out
        have hwl := k.lim
        have hgt : r.lim < (rtot r.L : Int) + r.out + n := by omega
        have hx0 : (rtot r.L : Int) ≤ 1073741824 := by omega
        have hx1 : r.out ≤ 1073741824 := by omega
        have hx2 := hb.2.2.1
        have hw1 : IntKind.i64.wrap ((rtot r.L : Int) + r.out) = (rtot r.L : Int) + r.out := by rw [IntKind.wrap_i64]; omega
        have hw2 : IntKind.i64.wrap ((rtot r.L : Int) + r.out + n) = (rtot r.L : Int) + r.out + n := by rw [IntKind.wrap_i64]; omega
        have HC := Lib.hid (fun n => Calls.quiet_of (rwaiting (h.drewN n) k))
        clear h k hr hb hE e h1 h2 h3 hkn hwa hwo hwl
        go_enter Try.func24, Try.ntmps24
        go_wp2_with fail
        go_quiet ((go_at_call 29; exact HC.out _))
        go_wp2
        go_ret
        exact ⟨rfl, .inl ⟨by decide, H.out.drewN _, below_drewN _ _ _⟩⟩
      · exact absurd (by unfold pushE; rw [if_neg h1, if_neg h2, if_neg h3]) hE
set_option maxHeartbeats 8000000 in
theorem rpush_ok (h : RM w base gr r vL bN) (k : RR q r) (s n c : Nat) (proto : Int) (un : Bool) (A : Option Addr) (xs : List Int) (hr : Rd .u8 w A n xs) (hnone : A = none → c = 0) (hs2 : s ≤ 65535) (hE : pushE q s n = 0) :
    Calls Try.prog 24 #[.pointer (some ⟨gr, 0, none⟩), .int .u16 s, .int .u32 proto, .bool un, .slice A n c] w (RPush base gr bN vL r s proto un xs 0 w) := by
  have hb := k.bounds
  obtain ⟨AL, cL, rfl, hlc, hnn, _⟩ := h.form
  have c0 := h.cells.c0
  have c1 := h.cells.c1
  have c2 := h.cells.c2
  have c5 := h.cells.c5
  have f2 := h.cells.fr 2
  have hgl := h.cells.lt
  obtain ⟨h1, h2, h3, h4⟩ := pushE_0 hE
  obtain rfl : n = xs.length := hr.1.symm
  have hkn := k.n
  have hs0 : (0 : Int) ≤ (s : Int) := by omega
  have hs1 : (s : Int) ≤ 65535 := by omega
  have H := Lib.hid h
  have h1' : (s : Int) < ((r.n : Nat) : Int) := by omega
  have hz : ((xs.length : Int) == 0) = false := by rw [beq_eq_false_iff_ne]; omega
  have hwa := k.wai
  have hwo := k.out
  have hwl := k.lim
  have hngt : ¬ r.lim < (rtot r.L : Int) + r.out + xs.length := by omega
  have hx0 : (rtot r.L : Int) ≤ 1073741824 := by omega
  have hx1 : r.out ≤ 1073741824 := by omega
  have hx2 := hb.2.2.1
  have hl1 := hb.1
  have hw1 : IntKind.i64.wrap ((rtot r.L : Int) + r.out) = (rtot r.L : Int) + r.out := by rw [IntKind.wrap_i64]; omega
  have hw2 : IntKind.i64.wrap ((rtot r.L : Int) + r.out + xs.length) = (rtot r.L : Int) + r.out + xs.length := by rw [IntKind.wrap_i64]; omega
  have HC := Lib.hid (fun n => Calls.quiet_of (rwaiting (h.drewN n) k))
  have HR := Lib.hid hr
  have HN := Lib.hid hnone
  obtain ⟨i5, hi5, hz50, hz51, hz52⟩ := info_parts info5
  obtain ⟨i7, hi7, hz70, hz71, hz72⟩ := info_parts info77
  have HI5 := Lib.hid (show _ ∧ _ ∧ _ ∧ _ from ⟨hi5, hz50, hz51, hz52⟩)
  have HI7 := Lib.hid (show _ ∧ _ ∧ _ ∧ _ from ⟨hi7, hz70, hz71, hz72⟩)
  clear h k hr hb hE hkn hwa hwo hwl hnone hnn hi5 hz50 hz51 hz52 hi7 hz70 hz71 hz72
  go_enter Try.func24, Try.ntmps24
  go_wp2_with fail
  go_quiet ((go_at_call 29; exact HC.out _))
  clear hw1 hw2
  go_wp2_with fail
  refine name_world ?_
  intro w2 hw2
  have hM2 : RM w2 base gr r (.slice AL r.L.length cL) bN := by rw [hw2]; exact H.out.drewN _
  have hB2 : Below w.heap.size w w2 := by rw [hw2]; exact below_drewN _ _ _
  have hR2 : Rd .u8 w2 A xs.length xs := by rw [hw2]; exact Rd.below HR.out (below_drewN _ _ _)
  have HM2 := Lib.hid hM2
  have HB2 := Lib.hid hB2
  have c2 : w2.cell? ⟨gr, 2, none⟩ = some (.slice AL r.L.length cL) := hM2.cells.c2
  have f2 : w2.frozen? ⟨gr, 2, none⟩ = false := hM2.cells.fr 2
  have hgl : gr < w2.heap.size := hM2.cells.lt
  have hsrc : Src w2 A xs.length 1 (nums8 xs) := (Rd.toSrc hR2).elim id fun e => absurd e (by omega)
  have HS2 := Lib.hid hsrc
  clear hw2 hM2 hB2 hR2 hsrc HC c0 c1 c5
  have HO8 := Lib.hid (show (w2.drew.alloc (.cells #[] 5)).ownsRow w2.heap.size 5 1 (.slice (some ⟨w2.heap.size, 0, none⟩) 0 0) 0 (nums8 []) from own8_empty w2.drew w2.heap.size 5 (Nat.le_refl _))
  have HS8 := Lib.hid (show Src (w2.drew.alloc (.cells #[] 5)) A xs.length 1 (nums8 xs) from HS2.out.keep fun b hb => ((Below.refl w2.heap.size w2).drew.alloc (Nat.le_refl _) _).block b hb)
  have HG8 := Lib.hid (show w2.heap.size ≤ (w2.drew.alloc (.cells #[] 5)).heap.size by simp)
  go_region_law (first
    | (rw [if_pos (by rfl)]; refine wp_append_src _ _ _ rfl w2.heap.size 5 i5 _ 1 1 Try.underlying32 HI5.out.1 HI5.out.2.1 HI5.out.2.2.1 HI5.out.2.2.2 rfl (by omega) _ 0 [] rfl HO8.out A xs.length c (nums8 xs) rfl HS8.out HN.out (nums8_one xs) (by simp only [maxLen]; omega) (by omega) HG8.out ?_; intro v1 w3 hown1 hg1 hv1; rw [List.nil_append, Nat.zero_add] at hown1; have hB3 : Below w2.heap.size w2 w3 := below_app (W := w2.drew.alloc (.cells #[] 5)) (by repeat (first | with_reducible exact Below.refl _ _ | with_reducible assumption | with_reducible refine Below.drew ?_ | with_reducible refine below_dN ?_ _ | with_reducible refine Below.setCell ?_ (by first | omega | (simp; done) | (simp; omega)) _ | with_reducible refine below_al ?_ (by first | omega | (simp; done) | (simp; omega)) _ | exact Below.refl _ _ | assumption | refine Below.drew ?_ | refine below_dN ?_ _ | refine Below.setCell ?_ (by first | omega | (simp; done) | (simp; omega)) _ | refine below_al ?_ (by first | omega | (simp; done) | (simp; omega)) _ | refine below_tr (by assumption) ?_ (by first | omega | (simp; done) | (simp; omega)) | fail)) (by simp) (own8_empty w2.drew w2.heap.size 5 (Nat.le_refl _)) hg1; obtain ⟨A1, c1, rfl, hn1, hcm1, hnn1, hA1⟩ := own_form hown1; have hr1 := own_rd hown1; have hl1' := own_lt hown1; have c23 : w3.cell? ⟨gr, 2, none⟩ = some (.slice AL r.L.length cL) := (hB3.cell (p := ⟨gr, 2, none⟩) hgl).trans c2; have f23 : w3.frozen? ⟨gr, 2, none⟩ = false := (hB3.frozen (p := ⟨gr, 2, none⟩) hgl).trans f2; have hgl3 : gr < w3.heap.size := Nat.lt_of_lt_of_le hgl hB3.size; have HB3 := Lib.hid hB3; have HR1 := Lib.hid hr1; have HL1 := Lib.hid hl1'; have HNN1 := Lib.hid hnn1; have HA1 := Lib.hid hA1; have HSE := Lib.hid (ent_src w3 ⟨s, 0, proto, un, A1, c1, xs, 0⟩); have HLL := Lib.hid (own_below (w' := w3.alloc (.cells #[.int .u16 s, .int .u16 0, .int .u32 proto, .bool un, .slice A1 xs.length c1, .int .i64 0] 77)) HM2.out.l fun b hb => (((HB3.out.alloc HB3.out.size _).block b (own_lt HM2.out.l b hb).2))); have HBB := Lib.hid (show base ≤ (w3.alloc (.cells #[.int .u16 s, .int .u16 0, .int .u32 proto, .bool un, .slice A1 xs.length c1, .int .i64 0] 77)).heap.size by have := HM2.out.hb; have := HB3.out.size; simp; omega); clear hown1 hg1 hv1 hB3 hr1 hl1' hnn1 hA1)
    | (rw [if_pos (by rfl)]; refine wp_append_src _ _ _ rfl base 77 i7 _ 6 48 Try.underlying68 HI7.out.1 HI7.out.2.1 HI7.out.2.2.1 HI7.out.2.2.2 rfl (by omega) _ r.L.length (r.L.flatMap ec) rfl HLL.out _ 1 1 (ec ⟨s, 0, proto, un, A1, c1, xs, 0⟩) rfl HSE.out (fun e => by cases e) (fun u hu => ec_one [⟨s, 0, proto, un, A1, c1, xs, 0⟩] u (by simpa using hu)) (by simp only [maxLen]; omega) (by omega) HBB.out ?_; intro v2 w4 hown2 hg2 hv2; obtain ⟨A2, cc2, rfl, _⟩ := own_form hown2; have hk4 := (hg2.block gr (by simp; omega) (fun e => HM2.out.n1 e.symm)).trans (al_old _ _ gr hgl3); have c24 : w4.cell? ⟨gr, 2, none⟩ = some (.slice AL r.L.length cL) := (World.cell?_of_block (w := w3) (w' := w4) hk4).trans c23; have f24 : w4.frozen? ⟨gr, 2, none⟩ = false := (World.frozen?_of_block (w := w3) (w' := w4) hk4).trans f23; have HOW2 := Lib.hid hown2; have HGR2 := Lib.hid hg2; have HVV2 := Lib.hid hv2; clear hown2 hg2 hv2 hk4))
  all_goals
    have hfin := HM2.out.push HB3.out ⟨s, 0, proto, un, A1, c1, xs, 0⟩ HR1.out hn1 (fun e => (HNN1.out e).2) (fun ad e => (by obtain ⟨gg, rfl, e2, _⟩ := HA1.out ad e; exact HL1.out gg e2)) h3 ((Below.refl w3.heap.size w3).alloc (Nat.le_refl _) _) HOW2.out HGR2.out HVV2.out
    have HFIN := Lib.hid hfin
    clear hfin
    go_wp2
    go_ret
    exact ⟨rfl, .inr ⟨rfl, A1, c1, _, HFIN.out.1, HFIN.out.2.1.of_bel H.out.hb HB2.out, (fun ad e => Nat.le_trans HB2.out.size (by obtain ⟨gg, rfl, e2, _⟩ := HA1.out ad e; exact (HL1.out gg e2).1)), fun b hb hlt => HFIN.out.2.2 b hb (Nat.lt_of_lt_of_le hlt HB2.out.size)⟩⟩
end
