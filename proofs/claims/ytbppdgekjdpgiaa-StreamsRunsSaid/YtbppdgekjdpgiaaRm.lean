/- Layer 16: the reference in memory; its functions that only read. -/
import Derived.Test.YtbppdgekjdpgiaaRl
namespace Go.Proofs.Ytbppdgekjdpgiaa.C
open Go.RowKit
set_option linter.unusedVariables false
set_option linter.unusedSimpArgs false
attribute [local go_sem high] max2_mx min2_mn max_two min_two
attribute [local go_sem ↓] Go.wp_at_zero Go.wp_at_succ

def rcells (r : RS) (vL : Value) (bN : Nat) : Array Value := #[.int .i64 r.n, .int .i64 r.lim, vL, .slice (some ⟨bN, 0, none⟩) r.n r.n, .int .i64 r.last, .int .i64 r.out]
def ec (e : Ent) : List Value := [.int .u16 e.st, .int .u16 e.ssn, .int .u32 e.proto, .bool e.un, .slice e.A e.data.length e.c, .int .i64 e.at_]
theorem ec_len (e : Ent) : (ec e).length = 6 := rfl
theorem ec_one (L : List Ent) : ∀ u ∈ L.flatMap ec, u.oneCell' = true := by
  intro u hu
  simp only [List.mem_flatMap] at hu
  obtain ⟨e, _, hz⟩ := hu
  simp [ec] at hz
  rcases hz with rfl | rfl | rfl | rfl | rfl | rfl <;> rfl
/-- a data block of the reference's -/
def DB (r : RS) (b : Nat) : Prop := ∃ e ∈ r.L, ∃ ad, e.A = some ad ∧ ad.block = b
/-- a block of the reference's -/
def RF (gr bN : Nat) (vL : Value) (r : RS) (b : Nat) : Prop := b = gr ∨ b = bN ∨ vL.ownBlock = some b ∨ DB r b
structure RM (w : World) (base gr : Nat) (r : RS) (vL : Value) (bN : Nat) : Prop where
  g : w.heap[gr]? = some (.cells (rcells r vL bN) 70 (0, 0))
  l : w.ownsRow base 77 6 vL r.L.length (r.L.flatMap ec)
  s : ∃ arr : Array Value, w.heap[bN]? = some (.cells arr 30 (0, 0)) ∧ arr.size = r.n ∧ ∀ t, t < r.n → arr[t]? = some (.int .u16 (r.ssn t))
  d : ∀ e ∈ r.L, Rd .u8 w e.A e.data.length e.data ∧ e.data.length ≤ e.c ∧ (e.A = none → e.c = 0) ∧ e.data.length ≤ 65536
  dd : ∀ b, DB r b → base ≤ b ∧ b < w.heap.size ∧ b ≠ gr ∧ b ≠ bN ∧ vL.ownBlock ≠ some b
  ne : gr ≠ bN
  n1 : vL.ownBlock ≠ some gr
  n2 : vL.ownBlock ≠ some bN
  lo : base ≤ gr
  lo2 : base ≤ bN
  hb : base ≤ w.heap.size
section
variable {w w' : World} {base gr : Nat} {r : RS} {vL : Value} {bN : Nat}
theorem RM.lt (h : RM w base gr r vL bN) : ∀ b, RF gr bN vL r b → base ≤ b ∧ b < w.heap.size := fun b hb => by
  rcases hb with rfl | rfl | hb | hb
  · exact ⟨h.lo, lt_of_heap h.g⟩
  · obtain ⟨arr, h1, _⟩ := h.s
    exact ⟨h.lo2, lt_of_heap h1⟩
  · exact own_lt h.l b hb
  · exact ⟨(h.dd b hb).1, (h.dd b hb).2.1⟩
theorem RM.keep (h : RM w base gr r vL bN) (hs : w.heap.size ≤ w'.heap.size) (hk : ∀ b, RF gr bN vL r b → w'.heap[b]? = w.heap[b]?) : RM w' base gr r vL bN := by
  refine { h with g := (hk gr (.inl rfl)).trans h.g, l := own_below h.l fun b hb => hk b (.inr (.inr (.inl hb))), s := ?_, d := fun e he => ?_, dd := fun b hb => ?_, hb := Nat.le_trans h.hb hs }
  · obtain ⟨arr, h1, h2⟩ := h.s
    exact ⟨arr, (hk bN (.inr (.inl rfl))).trans h1, h2⟩
  · obtain ⟨h1, h2, h3, h4⟩ := h.d e he
    refine ⟨⟨h1.1, h1.2.1, fun h0 => ?_⟩, h2, h3, h4⟩
    obtain ⟨ad, e1, hc⟩ := h1.2.2 h0
    refine ⟨ad, e1, fun j hj => ?_⟩
    exact (World.cell?_of_block (w := w) (w' := w') (by rw [block_add]; exact hk ad.block (.inr (.inr (.inr ⟨e, he, ad, e1, rfl⟩))))).trans (hc j hj)
  · obtain ⟨h1, h2, h3⟩ := h.dd b hb
    exact ⟨h1, Nat.lt_of_lt_of_le h2 hs, h3⟩
theorem RM.bel (h : RM w base gr r vL bN) (hb : Below w.heap.size w w') : RM w' base gr r vL bN := h.keep hb.size fun b hf => hb.block b (h.lt b hf).2
theorem RM.drewN (h : RM w base gr r vL bN) (n : Nat) : RM (w.drewN n) base gr r vL bN := h.keep (Nat.le_refl _) fun _ _ => rfl
/-- the reference's own cells -/
structure RC (w : World) (gr : Nat) (r : RS) (vL : Value) (bN : Nat) : Prop where
  c0 : w.cell? ⟨gr, 0, none⟩ = some (.int .i64 r.n)
  c1 : w.cell? ⟨gr, 1, none⟩ = some (.int .i64 r.lim)
  c2 : w.cell? ⟨gr, 2, none⟩ = some vL
  c3 : w.cell? ⟨gr, 3, none⟩ = some (.slice (some ⟨bN, 0, none⟩) r.n r.n)
  c4 : w.cell? ⟨gr, 4, none⟩ = some (.int .i64 r.last)
  c5 : w.cell? ⟨gr, 5, none⟩ = some (.int .i64 r.out)
  fr : ∀ j, w.frozen? ⟨gr, j, none⟩ = false
  lt : gr < w.heap.size
theorem RM.cells (h : RM w base gr r vL bN) : RC w gr r vL bN :=
  ⟨cell_of_row w gr 0 _ 70 (0, 0) h.g, cell_of_row w gr 1 _ 70 (0, 0) h.g, cell_of_row w gr 2 _ 70 (0, 0) h.g, cell_of_row w gr 3 _ 70 (0, 0) h.g, cell_of_row w gr 4 _ 70 (0, 0) h.g, cell_of_row w gr 5 _ 70 (0, 0) h.g, fun j => frozen_of_row w gr j _ 70 h.g, lt_of_heap h.g⟩
/-- the list's slice; an entry's cells -/
theorem RM.form (h : RM w base gr r vL bN) : ∃ A c, vL = .slice A r.L.length c ∧ r.L.length ≤ c ∧ (A = none → r.L.length = 0 ∧ c = 0) ∧ ∀ i e, r.L[i]? = some e → ∃ gL, A = some ⟨gL, 0, none⟩ ∧ vL.ownBlock = some gL ∧ w.cell? ⟨gL, i * 6, none⟩ = some (.int .u16 e.st) ∧ w.cell? ⟨gL, i * 6 + 1, none⟩ = some (.int .u16 e.ssn) ∧ w.cell? ⟨gL, i * 6 + 2, none⟩ = some (.int .u32 e.proto) ∧ w.cell? ⟨gL, i * 6 + 3, none⟩ = some (.bool e.un) ∧ w.cell? ⟨gL, i * 6 + 4, none⟩ = some (.slice e.A e.data.length e.c) ∧ w.cell? ⟨gL, i * 6 + 5, none⟩ = some (.int .i64 e.at_) := by
  obtain ⟨A, c, h1, h2, h3, h4, h5⟩ := own_form h.l
  refine ⟨A, c, h1, h2, h4, fun i e hi => ?_⟩
  have hil := (List.getElem?_eq_some_iff.1 hi).1
  cases A with
  | none => have := (h4 rfl).1; omega
  | some ad =>
    obtain ⟨gL, rfl, h6, h7⟩ := h5 ad rfl
    have hg := fun j hj => flat_get ec_len r.L i j e hi (k := 6) hj
    exact ⟨gL, rfl, h6, h7 _ _ ((hg 0 (by decide)).trans rfl), h7 _ _ ((hg 1 (by decide)).trans rfl), h7 _ _ ((hg 2 (by decide)).trans rfl), h7 _ _ ((hg 3 (by decide)).trans rfl), h7 _ _ ((hg 4 (by decide)).trans rfl), h7 _ _ ((hg 5 (by decide)).trans rfl)⟩
end
theorem rtot_snoc (L : List Ent) (e : Ent) : rtot (L ++ [e]) = rtot L + rest e := by simp [rtot]
theorem rtot_le (L : List Ent) (k : Nat) : rtot (L.take k) ≤ rtot L := by
  have h := congrArg rtot (List.take_append_drop k L)
  unfold rtot at h ⊢
  rw [List.map_append, List.sum_append] at h
  omega
theorem take_succ_get {α : Type} (L : List α) (k : Nat) (e : α) (h : L[k]? = some e) : L.take (k + 1) = L.take k ++ [e] := by
  obtain ⟨hk, rfl⟩ := List.getElem?_eq_some_iff.1 h
  rw [List.take_succ_eq_append_getElem hk]
section
variable {q : QS} {r : RS} {w : World} {base gr : Nat} {vL : Value} {bN : Nat}
set_option maxHeartbeats 2000000 in
theorem rwaiting (h : RM w base gr r vL bN) (k : RR q r) : Calls Try.prog 29 #[.pointer (some ⟨gr, 0, none⟩)] w fun e w' => e = .returned (.int .i64 (rtot r.L)) ∧ ∃ m, w' = w.drewN m := by
  have hb := k.bounds
  obtain ⟨A, c, rfl, hlc, hnn, hent⟩ := h.form
  have H := Lib.hid h
  have HE := Lib.hid hent
  have HST := Lib.hid k.st
  have hl1 := hb.1
  have hl2 : (rtot r.L : Int) ≤ 1073741824 := by omega
  have c2 := h.cells.c2
  clear h k hb hnn hent
  go_enter Try.func29, Try.ntmps29
  go_wp2
  go_loopw [3, 4] (fun n i wr => ∃ (k m : Nat), k ≤ r.L.length ∧ i = .int .i64 k ∧ n = .int .i64 (rtot (r.L.take k)) ∧ wr = w.drewN m) (fun _ i _ => r.L.length - (intOf i).toNat)
  case atStart => exact ⟨0, 0, by omega, rfl, by simp [rtot], rfl⟩
  case round =>
    obtain ⟨k, m, hk, rfl, rfl, rfl⟩ := hrel
    by_cases hlt : k < r.L.length
    · have he : r.L[k]? = some r.L[k] := List.getElem?_eq_getElem hlt
      generalize r.L[k] = e at he
      obtain ⟨gL, rfl, _, _, _, _, _, e4, e5⟩ := HE.out k e he
      have hm := List.mem_of_getElem? he
      have hat := (HST.out e hm).2
      have hd := (H.out.d e hm).2.2.2
      have hts := take_succ_get r.L k e he
      have h1 := rtot_le r.L (k + 1)
      rw [hts, rtot_snoc] at h1
      have hr : rest e = e.data.length - e.at_ := rfl
      have HTS := Lib.hid (show ((rtot (r.L.take (k + 1)) : Nat) : Int) = (rtot (r.L.take k) : Int) + e.data.length - e.at_ by rw [hts, rtot_snoc]; omega)
      have hx0 : (0 : Int) ≤ (rtot (r.L.take k) : Int) := by omega
      have hx1 : (rtot (r.L.take k) : Int) ≤ 1073741824 := by omega
      have hj0 : (0 : Int) ≤ (k : Int) := by omega
      have hj1 : (k : Int) < (r.L.length : Int) := by omega
      have hw1 : IntKind.i64.wrap ((rtot (r.L.take k) : Int) + e.data.length) = (rtot (r.L.take k) : Int) + e.data.length := by rw [IntKind.wrap_i64]; omega
      have hw2 : IntKind.i64.wrap ((rtot (r.L.take k) : Int) + e.data.length - e.at_) = (rtot (r.L.take k) : Int) + e.data.length - e.at_ := by rw [IntKind.wrap_i64]; omega
      clear he hm hts h1 hr
      go_wp2_with fail
      go_quiet (fail)
      go_wp2
      go_roundw
      case rel => exact ⟨k + 1, _, by omega, by go_num, by rw [HTS.out], rfl⟩
      case measure => (simp [intOf]; omega)
    · obtain rfl : k = r.L.length := by omega
      rw [List.take_length]
      go_wp2
      go_ret
      exact ⟨rfl, _, rfl⟩
theorem fl_snoc (L : List Ent) (e : Ent) (s : Nat) : (fl (L ++ [e]) s).length = (fl L s).length + if e.st = s then 1 else 0 := by
  rw [fl_app, fl_cons, List.length_append]
  split
  · rfl
  · rfl
set_option maxHeartbeats 2000000 in
theorem rcount (h : RM w base gr r vL bN) (k : RR q r) (s : Nat) : Calls Try.prog 30 #[.pointer (some ⟨gr, 0, none⟩), .int .u16 s] w fun e w' => e = .returned (.int .i64 (fl r.L s).length) ∧ w = w' := by
  have hb := k.bounds
  obtain ⟨A, c, rfl, hlc, hnn, hent⟩ := h.form
  have HE := Lib.hid hent
  have hl1 := hb.1
  have c2 := h.cells.c2
  clear h k hb hnn hent
  go_enter Try.func30, Try.ntmps30
  go_wp2
  go_loop [5, 6] (fun n i => ∃ (k : Nat), k ≤ r.L.length ∧ i = .int .i64 k ∧ n = .int .i64 (fl (r.L.take k) s).length) (fun _ i => r.L.length - (intOf i).toNat)
  case atStart => exact ⟨0, by omega, rfl, rfl⟩
  case round =>
    obtain ⟨k, hk, rfl, rfl⟩ := hrel
    by_cases hlt : k < r.L.length
    · have he : r.L[k]? = some r.L[k] := List.getElem?_eq_getElem hlt
      generalize r.L[k] = e at he
      obtain ⟨gL, rfl, _, e0, _⟩ := HE.out k e he
      have hts := take_succ_get r.L k e he
      have hfs := fl_snoc (r.L.take k) e s
      rw [← hts] at hfs
      have hle : (fl (r.L.take k) s).length ≤ k := Nat.le_trans (List.length_filter_le _ _) (by rw [List.length_take]; omega)
      have hj0 : (0 : Int) ≤ (k : Int) := by omega
      have hj1 : (k : Int) < (r.L.length : Int) := by omega
      clear he hts
      by_cases hes : e.st = s
      · rw [if_pos hes] at hfs
        rw [hes] at e0
        have HF := Lib.hid hfs
        clear hes hfs
        go_wp2
        go_round
        case rel => exact ⟨k + 1, by omega, by go_num, by rw [HF.out]; go_num⟩
        case measure => (simp [intOf]; omega)
      · rw [if_neg hes, Nat.add_zero] at hfs
        have hb : ((e.st : Int) == (s : Int)) = false := by rw [beq_eq_false_iff_ne]; omega
        have HF := Lib.hid hfs
        clear hes hfs
        go_wp2
        go_round
        case rel => exact ⟨k + 1, by omega, by go_num, by first | (rw [HF.out]; done) | (rw [HF.out]; rfl)⟩
        case measure => (simp [intOf]; omega)
    · obtain rfl : k = r.L.length := by omega
      rw [List.take_length]
      go_wp2
      go_ret
      exact ⟨rfl, rfl⟩
theorem rfirst_at (L : List Ent) (s k : Nat) (e : Ent) (he : L[k]? = some e) (hs : e.st = s) (hn : ∀ j y, j < k → L[j]? = some y → y.st ≠ s) : rfirst L s = (k : Int) := by
  obtain ⟨hk, rfl⟩ := List.getElem?_eq_some_iff.1 he
  unfold rfirst
  have : L.findIdx? (fun e => e.st == s) = some k := by
    rw [List.findIdx?_eq_some_iff_getElem]
    refine ⟨hk, by simpa using hs, fun j hj => ?_⟩
    have := hn j L[j] hj (List.getElem?_eq_getElem (by omega))
    simpa using this
  rw [this]
theorem rfirst_no (L : List Ent) (s : Nat) (hn : ∀ j y, j < L.length → L[j]? = some y → y.st ≠ s) : rfirst L s = -1 := by
  unfold rfirst
  have : L.findIdx? (fun e => e.st == s) = none := by
    rw [List.findIdx?_eq_none_iff]
    intro y hy
    obtain ⟨j, hj, rfl⟩ := List.getElem_of_mem hy
    have := hn j L[j] hj (List.getElem?_eq_getElem hj)
    simpa using this
  rw [this]
set_option maxHeartbeats 2000000 in
theorem rfirst_c (h : RM w base gr r vL bN) (k : RR q r) (s : Nat) : Calls Try.prog 35 #[.pointer (some ⟨gr, 0, none⟩), .int .i64 s] w fun e w' => e = .returned (.int .i64 (rfirst r.L s)) ∧ w = w' := by
  have hb := k.bounds
  obtain ⟨A, c, rfl, hlc, hnn, hent⟩ := h.form
  have HE := Lib.hid hent
  have HST := Lib.hid k.st
  have hl1 := hb.1
  have hqn : q.n ≤ 1024 := k.i.ok.n1
  have c2 := h.cells.c2
  clear h k hb hnn hent
  go_enter Try.func35, Try.ntmps35
  go_wp2
  go_loop [5] (fun i => ∃ (k : Nat), k ≤ r.L.length ∧ i = .int .i64 k ∧ Hid (∀ j y, j < k → r.L[j]? = some y → y.st ≠ s)) (fun i => r.L.length - (intOf i).toNat)
  case atStart => exact ⟨0, by omega, rfl, Lib.hid fun j y hj => absurd hj (by omega)⟩
  case round =>
    obtain ⟨k, hk, rfl, HN⟩ := hrel
    by_cases hlt : k < r.L.length
    · have he : r.L[k]? = some r.L[k] := List.getElem?_eq_getElem hlt
      generalize r.L[k] = e at he
      obtain ⟨gL, rfl, _, e0, _⟩ := HE.out k e he
      have hst := (HST.out e (List.mem_of_getElem? he)).1
      have hj0 : (0 : Int) ≤ (k : Int) := by omega
      have hj1 : (k : Int) < (r.L.length : Int) := by omega
      have hs0 : (0 : Int) ≤ (e.st : Int) := by omega
      have hs1 : (e.st : Int) ≤ 1024 := by omega
      have HEE := Lib.hid he
      clear he
      by_cases hes : e.st = s
      · have hf := rfirst_at r.L s k e HEE.out hes HN.out
        rw [hes] at e0 hs0 hs1
        have HF := Lib.hid hf
        clear hes hf hst
        go_wp2
        go_ret
        exact ⟨ret_int HF.out.symm, rfl⟩
      · have hb : ((e.st : Int) == (s : Int)) = false := by rw [beq_eq_false_iff_ne]; omega
        have HES := Lib.hid hes
        clear hes hst
        go_wp2
        go_round
        case rel => exact ⟨k + 1, by omega, by go_num, Lib.hid fun j y hj hy => by
            by_cases e1 : j = k
            · subst e1; rw [HEE.out] at hy; injection hy with hy; subst hy; exact HES.out
            · exact HN.out j y (by omega) hy⟩
        case measure => (simp [intOf]; omega)
    · obtain rfl : k = r.L.length := by omega
      go_wp2
      go_ret
      exact ⟨ret_int (rfirst_no r.L s HN.out).symm, rfl⟩
end
