/- Layer 16: the reference: next, Next, Free, Same, New. -/
import Derived.Test.YtbppdgekjdpgiaaRm
namespace Go.Proofs.Ytbppdgekjdpgiaa.C
open Go.RowKit
set_option linter.unusedVariables false
set_option linter.unusedSimpArgs false
attribute [local go_sem high] max2_mx min2_mn max_two min_two
attribute [local go_sem ↓] Go.wp_at_zero Go.wp_at_succ

theorem ropen_at (L : List Ent) (k : Nat) (e : Ent) (he : L[k]? = some e) (hs : 0 < e.at_) (hn : ∀ j y, j < k → L[j]? = some y → y.at_ = 0) : ropen L = (k : Int) := by
  obtain ⟨hk, rfl⟩ := List.getElem?_eq_some_iff.1 he
  unfold ropen
  have : L.findIdx? (fun e => decide (0 < e.at_)) = some k := by
    rw [List.findIdx?_eq_some_iff_getElem]
    refine ⟨hk, by simpa using hs, fun j hj => ?_⟩
    have := hn j L[j] hj (List.getElem?_eq_getElem (by omega))
    simp [this]
  rw [this]
theorem ropen_no (L : List Ent) (hn : ∀ j y, j < L.length → L[j]? = some y → y.at_ = 0) : ropen L = -1 := by
  unfold ropen
  have : L.findIdx? (fun e => decide (0 < e.at_)) = none := by
    rw [List.findIdx?_eq_none_iff]
    intro y hy
    obtain ⟨j, hj, rfl⟩ := List.getElem_of_mem hy
    have := hn j L[j] hj (List.getElem?_eq_getElem hj)
    simp [this]
  rw [this]
theorem rnext_open (r : RS) (h : 0 ≤ ropen r.L) : rnext r = ropen r.L := by unfold rnext; rw [if_pos h]
theorem rnext_found (r : RS) (h : ropen r.L = -1) (j : Nat) (hj : j < r.n) (hn : ∀ i, i < j → rfirst r.L (rndR r i) < 0) (hf : 0 ≤ rfirst r.L (rndR r j)) : rnext r = rfirst r.L (rndR r j) := by
  unfold rnext
  rw [h, if_neg (by omega)]
  have : (upto (rndR r) r.n).find? (fun s => decide (0 ≤ rfirst r.L s)) = some (rndR r j) := by
    have hp : upto (rndR r) r.n = (upto (rndR r) j ++ [rndR r j]) ++ ((List.range (r.n - (j + 1))).map fun i => rndR r (j + 1 + i)) := by
      rw [← upto_succ]
      unfold upto
      conv => lhs; rw [show r.n = (j + 1) + (r.n - (j + 1)) from by omega]
      rw [List.range_add, List.map_append, List.map_map]
      rfl
    rw [hp, List.find?_append, List.find?_append]
    have hno : (upto (rndR r) j).find? (fun s => decide (0 ≤ rfirst r.L s)) = none := by
      rw [List.find?_eq_none]
      intro t ht
      unfold upto at ht
      rw [List.mem_map] at ht
      obtain ⟨i, hi, e⟩ := ht
      rw [List.mem_range] at hi
      have := hn i hi
      rw [e] at this
      simp
      omega
    rw [hno]
    simp [List.find?_cons, hf]
  rw [this]
theorem rnext_none (r : RS) (h : ropen r.L = -1) (hn : ∀ i, i < r.n → rfirst r.L (rndR r i) < 0) : rnext r = -1 := by
  unfold rnext
  rw [h, if_neg (by omega)]
  have : (upto (rndR r) r.n).find? (fun s => decide (0 ≤ rfirst r.L s)) = none := by
    rw [List.find?_eq_none]
    intro t ht
    unfold upto at ht
    rw [List.mem_map] at ht
    obtain ⟨i, hi, e⟩ := ht
    rw [List.mem_range] at hi
    have := hn i hi
    rw [e] at this
    simp
    omega
  rw [this]
theorem quiet_at {P : Program} {f : FuncId} {args : Array Value} {w : World} {v : Value} (m : Nat)
    (h : ∀ n, Calls P f args (w.drewN n) fun e w' => e = .returned v ∧ w.drewN n = w') (n : Nat) : Calls P f args (w.drewN (m + n)) fun e w'' => e = .returned v ∧ ∃ j, w'' = w.drewN (m + j) :=
  (h (m + n)).mono fun _ _ ⟨he, hm⟩ => ⟨he, n, hm.symm⟩
section
variable {q : QS} {r : RS} {w : World} {base gr : Nat} {vL : Value} {bN : Nat}
set_option maxHeartbeats 4000000 in
theorem rnext_c (h : RM w base gr r vL bN) (k : RR q r) : Calls Try.prog 32 #[.pointer (some ⟨gr, 0, none⟩)] w fun e w' => e = .returned (.int .i64 (rnext r)) ∧ ∃ m, w' = w.drewN m := by
  have hb := k.bounds
  obtain ⟨_, _, _, _, lb0, lb1, n0, n1⟩ := hb
  obtain ⟨A, c, rfl, hlc, hnn, hent⟩ := h.form
  have HE := Lib.hid hent
  have H := Lib.hid h
  have HK := Lib.hid k
  have hl1 := k.bounds.1
  have c2 := h.cells.c2
  have c0 := Lib.hid h.cells.c0
  have c4 := Lib.hid h.cells.c4
  clear h k hnn hent
  go_enter Try.func32, Try.ntmps32
  go_wp2
  go_loop [3] (fun i => ∃ (k : Nat), k ≤ r.L.length ∧ i = .int .i64 k ∧ Hid (∀ j y, j < k → r.L[j]? = some y → y.at_ = 0)) (fun i => r.L.length - (intOf i).toNat)
  case atStart => exact ⟨0, by omega, rfl, Lib.hid fun j y hj => absurd hj (by omega)⟩
  case round =>
    obtain ⟨k, hk, rfl, HN⟩ := hrel
    by_cases hlt : k < r.L.length
    · have he : r.L[k]? = some r.L[k] := List.getElem?_eq_getElem hlt
      generalize r.L[k] = e at he
      obtain ⟨gL, rfl, _, _, _, _, _, _, e5⟩ := HE.out k e he
      have hj0 : (0 : Int) ≤ (k : Int) := by omega
      have hj1 : (k : Int) < (r.L.length : Int) := by omega
      have HEE := Lib.hid he
      clear he
      by_cases hes : 0 < e.at_
      · have hf := ropen_at r.L k e HEE.out hes HN.out
        have hes' : (0 : Int) < (e.at_ : Int) := by omega
        have HF := Lib.hid (show rnext r = (k : Int) by rw [rnext_open r (by rw [hf]; omega), hf])
        clear hf
        go_wp2
        go_ret
        exact ⟨ret_int HF.out.symm, 0, rfl⟩
      · have hes' : ¬ (0 : Int) < (e.at_ : Int) := by omega
        have HES := Lib.hid hes
        clear hes
        go_wp2
        go_round
        case rel => exact ⟨k + 1, by omega, by go_num, Lib.hid fun j y hj hy => by
            by_cases e1 : j = k
            · subst e1; rw [HEE.out] at hy; injection hy with hy; subst hy; have := HES.out; omega
            · exact HN.out j y (by omega) hy⟩
        case measure => (simp [intOf]; omega)
    · obtain rfl : k = r.L.length := by omega
      have HO := Lib.hid (ropen_no r.L HN.out)
      clear HN
      go_wp2
      clear c2
      go_loopw [4] (fun i wr => ∃ (k m : Nat), 1 ≤ k ∧ k ≤ r.n + 1 ∧ i = .int .i64 k ∧ wr = w.drewN m ∧ Hid (∀ j, j + 1 < k → rfirst r.L (rndR r j) < 0)) (fun i _ => r.n + 1 - (intOf i).toNat)
      case atStart => exact ⟨1, 0, by omega, by omega, rfl, rfl, Lib.hid fun j hj => absurd hj (by omega)⟩
      case round =>
        obtain ⟨k, m, hk1, hk2, rfl, rfl, HN⟩ := hrel
        have d0' := c0.out
        have d4' := c4.out
        have d0 : (w.drewN m).cell? ⟨gr, 0, none⟩ = some (.int .i64 r.n) := c0.out
        have d4 : (w.drewN m).cell? ⟨gr, 4, none⟩ = some (.int .i64 r.last) := c4.out
        by_cases hlt : k ≤ r.n
        · obtain ⟨sN, hsN⟩ : ∃ sN, sN = rndR r (k - 1) := ⟨_, rfl⟩
          have hmod : (r.last + (k : Int)) % (r.n : Int) = (sN : Int) := by
            rw [hsN]
            unfold rndR
            rw [show ((k - 1 : Nat) : Int) + 1 = (k : Int) from by omega, Int.toNat_of_nonneg (Int.emod_nonneg _ (by omega))]
          have htmod : (r.last + (k : Int)).tmod (r.n : Int) = (sN : Int) := by rw [Int.tmod_eq_emod_of_nonneg (by omega)]; exact hmod
          have hw1 : IntKind.i64.wrap (r.last + (k : Int)) = r.last + (k : Int) := by rw [IntKind.wrap_i64]; omega
          have hnz : ((r.n : Int) == 0) = false := by rw [beq_eq_false_iff_ne]; omega
          have hnz2 : ¬ r.n = 0 := by omega
          have hlk0 : 0 ≤ r.last + (k : Int) := by omega
          have hws : IntKind.i64.wrap (sN : Int) = (sN : Int) := by rw [IntKind.wrap_i64]; have := Int.emod_lt_of_pos (r.last + (k : Int)) (b := (r.n : Int)) (by omega); omega
          have hcall := Lib.hid (quiet_at m (fun n => rfirst_c (H.out.drewN n) HK.out sN))
          have hlt' : (k : Int) ≤ (r.n : Int) := by omega
          have HSN := Lib.hid hsN
          clear hsN
          by_cases hfi : 0 ≤ rfirst r.L sN
          · have HF := Lib.hid (show rnext r = rfirst r.L sN by
              rw [HSN.out] at hfi ⊢
              exact rnext_found r HO.out (k - 1) (by omega) (fun i hi => HN.out i (by omega)) hfi)
            go_wp2_with fail
            go_quiet ((go_at_call 35; exact hcall.out _))
            go_wp2
            go_ret
            exact ⟨ret_int HF.out.symm, _, rfl⟩
          · have HF := Lib.hid hfi
            have hneg : rfirst r.L sN < 0 := by omega
            go_wp2_with fail
            go_quiet ((go_at_call 35; exact hcall.out _))
            go_wp2
            go_roundw
            case rel => exact ⟨k + 1, _, by omega, by omega, by go_num, rfl, Lib.hid fun j hj => by
                by_cases e1 : j = k - 1
                · rw [e1, ← HSN.out]; have := HF.out; omega
                · exact HN.out j (by omega)⟩
            case measure => (simp [intOf]; omega)
        · obtain rfl : k = r.n + 1 := by omega
          have hgt : ¬ (((r.n + 1 : Nat) : Int) ≤ (r.n : Int)) := by omega
          go_wp2
          go_ret
          exact ⟨ret_int (rnext_none r HO.out fun i hi => HN.out i (by omega)).symm, _, rfl⟩
end
/-- nothing waits; or the entry e, behind pre, is the next one of both -/
theorem RR.cases {q : QS} {r : RS} (h : RR q r) : (nextF q < 0 ∧ rnext r = -1) ∨
    ∃ pre e post ms, r.L = pre ++ e :: post ∧ (∀ y ∈ pre, y.st ≠ e.st) ∧ nextF q = ((e.st : Nat) : Int) ∧ e.st < q.n ∧ q.ss e.st = toM e :: ms ∧ rnext r = ((pre.length : Nat) : Int) ∧ r.L[pre.length]? = some e ∧ ((q.opn = e.st ∧ (toM e).begun = true) ∨ (q.opn < 0 ∧ (toM e).begun = false)) := by
  have hn := h.next
  rcases next_cases h.i with ⟨h1, h2, h3⟩ | ⟨s, m, ms, h1, h2, h3, h4⟩
  · rw [if_pos (by omega)] at hn
    exact .inl ⟨by omega, hn⟩
  · rw [if_neg (by omega), h1, Int.toNat_natCast] at hn
    have hfl : fl r.L s ≠ [] := fun e => by
      have := h.ss s h2
      rw [e, h3] at this
      cases this
    have hfi : 0 ≤ rfirst r.L s := by
      rcases Int.lt_or_le (rfirst r.L s) 0 with h5 | h5
      · exact absurd (rfirst_none.1 h5) hfl
      · exact h5
    obtain ⟨pre, e, post, hL, hi, hst, hpre⟩ := rfirst_some hfi
    have hss := h.ss s h2
    rw [hL, fl_first hst hpre, h3] at hss
    simp only [List.map_cons, List.cons.injEq] at hss
    obtain ⟨rfl, _⟩ := hss
    subst hst
    refine .inr ⟨pre, e, post, ms, hL, hpre, h1, h2, h3, hn.trans hi, by rw [hL]; simp, ?_⟩
    rcases h4 with h4 | h4
    · exact .inl h4
    · exact .inr ⟨h4.1, h4.2.1⟩
section
variable {q : QS} {r : RS} {w : World} {base gr : Nat} {vL : Value} {bN : Nat}
set_option maxHeartbeats 4000000 in
theorem rnxt (h : RM w base gr r vL bN) (k : RR q r) : Calls Try.prog 28 #[.pointer (some ⟨gr, 0, none⟩)] w fun e w' => e = .returned (.tuple #[.int .u16 (nxtA q), .int .i64 (nxtB q), .bool (nxtC q)]) ∧ ∃ m, w' = w.drewN m := by
  have hcall := rnext_c h k
  obtain ⟨A, c, rfl, hlc, hnn, hent⟩ := h.form
  have c2 := Lib.hid h.cells.c2
  have hl1 := k.bounds.1
  rcases k.cases with ⟨h1, h2⟩ | ⟨pre, e, post, ms, hL, hpre, h1, h2, h3, h4, h5, _⟩
  · rw [show nxtA q = 0 from if_pos h1, show nxtB q = 0 from if_pos h1, show nxtC q = false from by unfold nxtC; rw [decide_eq_true h1]; rfl]
    rw [h2] at hcall
    have HC := Lib.hid hcall
    clear h k hnn hent h1 h2 hcall
    go_enter Try.func28, Try.ntmps28
    go_wp2_with fail
    refine HC.out.mono ?_
    rintro e w' ⟨rfl, m, rfl⟩
    go_wp2
    go_ret3
    exact ⟨rfl, _, rfl⟩
  · have hneg : ¬ nextF q < 0 := by omega
    rw [h4] at hcall
    obtain ⟨gL, rfl, _, e0, _, _, _, e4, e5⟩ := hent _ e h5
    have hmem := List.mem_of_getElem? h5
    have hat := (k.st e hmem).2
    have hd := (h.d e hmem).2.2.2
    have hil := (List.getElem?_eq_some_iff.1 h5).1
    have hB : nxtB q = (e.data.length : Int) - e.at_ := by
      unfold nxtB
      rw [if_neg hneg, h1, Int.toNat_natCast, h3]
      show ((e.data.drop e.at_).length : Int) = _
      rw [List.length_drop]
      omega
    rw [show nxtA q = e.st from (if_neg hneg).trans h1, hB, show nxtC q = true from by unfold nxtC; rw [decide_eq_false hneg]; rfl]
    have HC := Lib.hid hcall
    have hj0 : (0 : Int) ≤ (pre.length : Int) := by omega
    have hj1 : (pre.length : Int) < (r.L.length : Int) := by omega
    have hw1 : IntKind.i64.wrap ((e.data.length : Int) - e.at_) = (e.data.length : Int) - e.at_ := by rw [IntKind.wrap_i64]; omega
    have c2' := c2.out
    clear h k hnn hent h1 h2 h3 h4 h5 hcall hL hpre hB hmem
    go_enter Try.func28, Try.ntmps28
    go_wp2_with fail
    refine HC.out.mono ?_
    rintro e w' ⟨rfl, m, rfl⟩
    go_wp2_with fail
    go_quiet (fail)
    go_wp2
    go_ret3
    exact ⟨rfl, _, by rw [World.drewN_drewN]⟩
/-- the reference behind Free -/
def rfree (q : QS) (r : RS) (x : Int) : RS := if freeE q x = 0 then { r with out := r.out - x } else r
theorem RR.free (k : RR q r) (x : Int) : RR (freeR q x) (rfree q r x) := by
  unfold freeR rfree
  by_cases h : x < 0 ∨ q.tak < x
  · rw [show freeE q x = 5 from if_pos h, if_neg (by decide), if_neg (by decide)]
    exact k
  · rw [show freeE q x = 0 from if_neg h, if_pos rfl, if_pos rfl]
    exact ⟨k.i.free x (by omega) (by omega), k.n, k.lim, k.last, by show r.out - x = q.tak - x; rw [k.out], k.ss, k.st, k.nums⟩
theorem RM.setG (h : RM w base gr r vL bN) (r' : RS) (hL : r'.L = r.L) (hs : r'.ssn = r.ssn) (hn : r'.n = r.n) (j : Nat) (v : Value) (hc : (rcells r vL bN).setIfInBounds j v = rcells r' vL bN) : RM (w.setCell ⟨gr, j, none⟩ v) base gr r' vL bN := by
  have hne : ∀ b, b ≠ gr → (w.setCell ⟨gr, j, none⟩ v).heap[b]? = w.heap[b]? := fun b hb => heap_setCell_other w ⟨gr, j, none⟩ b v (fun e => hb e)
  obtain ⟨n, lim, L, ssn, last, out⟩ := r'
  simp only at hL hs hn
  subst hL hs hn
  exact { g := by rw [heap_setCell_same w gr j _ 70 v h.g, hc], l := own_below h.l fun b hb => hne b (fun e => h.n1 (by rw [← e]; exact hb)), s := (by
      obtain ⟨arr, h1, h2⟩ := h.s
      exact ⟨arr, (hne bN h.ne.symm).trans h1, h2⟩), d := (fun e he => by
      obtain ⟨h1, h2, h3, h4⟩ := h.d e he
      exact ⟨Rd.oth h1 (oth_set w gr j v) (fun ad e1 => (h.dd ad.block ⟨e, he, ad, e1, rfl⟩).2.2.1), h2, h3, h4⟩), dd := (fun b hb => by
      obtain ⟨h1, h2, h3⟩ := h.dd b hb
      exact ⟨h1, by simpa using h2, h3⟩), ne := h.ne, n1 := h.n1, n2 := h.n2, lo := h.lo, lo2 := h.lo2, hb := by simpa using h.hb }
set_option maxHeartbeats 4000000 in
theorem rfree_c (h : RM w base gr r vL bN) (k : RR q r) (x : Int) : Calls Try.prog 27 #[.pointer (some ⟨gr, 0, none⟩), .int .i64 x] w fun e w' => e = .returned (.int .i64 (freeE q x)) ∧ RM w' base gr (rfree q r x) vL bN ∧ w.grownBy w' (some gr) := by
  have c5 := h.cells.c5
  have f5 := h.cells.fr 5
  have ho := k.out
  have hb := k.bounds
  have hb1 : r.out ≤ 1073741824 := by have := hb.2.1; omega
  have hb0 := hb.2.2.1
  have H := Lib.hid h
  by_cases h1 : x < 0
  · rw [show freeE q x = 5 from if_pos (.inl h1), show rfree q r x = r from by unfold rfree; rw [show freeE q x = 5 from if_pos (.inl h1), if_neg (by decide)]]
    clear h k ho hb
    go_enter Try.func27, Try.ntmps27
    go_wp2
    go_ret
    exact ⟨rfl, H.out, World.grownBy.refl w _⟩
  by_cases h2 : r.out < x
  · have h2' : q.tak < x := by omega
    rw [show freeE q x = 5 from if_pos (.inr h2'), show rfree q r x = r from by unfold rfree; rw [show freeE q x = 5 from if_pos (.inr h2'), if_neg (by decide)]]
    clear h k ho hb h2'
    go_enter Try.func27, Try.ntmps27
    go_wp2
    go_ret
    exact ⟨rfl, H.out, World.grownBy.refl w _⟩
  · have h2' : ¬ (x < 0 ∨ q.tak < x) := by omega
    rw [show freeE q x = 0 from if_neg h2', show rfree q r x = { r with out := r.out - x } from by unfold rfree; rw [show freeE q x = 0 from if_neg h2', if_pos rfl]]
    clear h k ho hb h2'
    go_enter Try.func27, Try.ntmps27
    go_wp2
    go_ret
    exact ⟨rfl, H.out.setG { r with out := r.out - x } rfl rfl rfl 5 _ rfl, ⟨rfl, rfl, rfl, by simp, fun b _ hb => heap_setCell_other w ⟨gr, 5, none⟩ b _ (fun e => hb (by rw [show b = gr from e]))⟩⟩
end
/-! ### Same, New -/
set_option maxHeartbeats 4000000 in
set_option maxRecDepth 100000 in
theorem samem (s ssn proto : Int) (un : Bool) (A A' : Option Addr) (n c c' : Nat) (xs : List Int) (w : World) (h : Rd .u8 w A n xs) (h' : Rd .u8 w A' n xs) :
    Calls Try.prog 33 #[.agg #[.int .u16 s, .int .u16 ssn, .int .u32 proto, .bool un, .slice A n c], .agg #[.int .u16 s, .int .u16 ssn, .int .u32 proto, .bool un, .slice A' n c']] w fun e w' => e = .returned (.bool true) ∧ Below w.heap.size w w' := by
  have hu34 := Try.underlying34
  have hb : Below w.heap.size w ((w.alloc (.cells #[.int .u16 s, .int .u16 ssn, .int .u32 proto, .bool un, .slice A n c] 34)).alloc (.cells #[.int .u16 s, .int .u16 ssn, .int .u32 proto, .bool un, .slice A' n c'] 34)) := (by repeat (first | with_reducible exact Below.refl _ _ | with_reducible assumption | with_reducible refine Below.drew ?_ | with_reducible refine below_dN ?_ _ | with_reducible refine Below.setCell ?_ (by first | omega | (simp; done) | (simp; omega)) _ | with_reducible refine below_al ?_ (by first | omega | (simp; done) | (simp; omega)) _ | exact Below.refl _ _ | assumption | refine Below.drew ?_ | refine below_dN ?_ _ | refine Below.setCell ?_ (by first | omega | (simp; done) | (simp; omega)) _ | refine below_al ?_ (by first | omega | (simp; done) | (simp; omega)) _ | refine below_tr (by assumption) ?_ (by first | omega | (simp; done) | (simp; omega)) | fail))
  have cv1 := conv_rd (c := c) (h.below hb) 32 5 Try.underlying32 Try.underlying5 9 Try.underlying9
  have cv2 := conv_rd (c := c') (h'.below hb) 32 5 Try.underlying32 Try.underlying5 9 Try.underlying9
  have HB := Lib.hid hb
  clear h h' hb
  go_enter Try.func33, Try.ntmps33
  go_wp2
  go_ret
  exact ⟨rfl, HB.out⟩
set_option maxHeartbeats 4000000 in
set_option maxRecDepth 100000 in
theorem same_c (s ssn proto : Int) (un bg en : Bool) (A A' : Option Addr) (n c c' : Nat) (xs : List Int) (w : World) (h : Rd .u8 w A n xs) (h' : Rd .u8 w A' n xs) :
    Calls Try.prog 26 #[.agg #[.int .u16 s, .int .u16 ssn, .int .u32 proto, .bool un, .slice A n c, .bool bg, .bool en], .agg #[.int .u16 s, .int .u16 ssn, .int .u32 proto, .bool un, .slice A' n c', .bool bg, .bool en]] w fun e w' => e = .returned (.bool true) ∧ Below w.heap.size w w' := by
  have hu36 := Try.underlying36
  have hu34 := Try.underlying34
  have HR := Lib.hid h
  have HR' := Lib.hid h'
  clear h h'
  go_enter Try.func26, Try.ntmps26
  go_wp2_with fail
  refine (samem s ssn proto un A A' n c c' xs _ (HR.out.below (by repeat (first | with_reducible exact Below.refl _ _ | with_reducible assumption | with_reducible refine Below.drew ?_ | with_reducible refine below_dN ?_ _ | with_reducible refine Below.setCell ?_ (by first | omega | (simp; done) | (simp; omega)) _ | with_reducible refine below_al ?_ (by first | omega | (simp; done) | (simp; omega)) _ | exact Below.refl _ _ | assumption | refine Below.drew ?_ | refine below_dN ?_ _ | refine Below.setCell ?_ (by first | omega | (simp; done) | (simp; omega)) _ | refine below_al ?_ (by first | omega | (simp; done) | (simp; omega)) _ | refine below_tr (by assumption) ?_ (by first | omega | (simp; done) | (simp; omega)) | fail))) (HR'.out.below (by repeat (first | with_reducible exact Below.refl _ _ | with_reducible assumption | with_reducible refine Below.drew ?_ | with_reducible refine below_dN ?_ _ | with_reducible refine Below.setCell ?_ (by first | omega | (simp; done) | (simp; omega)) _ | with_reducible refine below_al ?_ (by first | omega | (simp; done) | (simp; omega)) _ | exact Below.refl _ _ | assumption | refine Below.drew ?_ | refine below_dN ?_ _ | refine Below.setCell ?_ (by first | omega | (simp; done) | (simp; omega)) _ | refine below_al ?_ (by first | omega | (simp; done) | (simp; omega)) _ | refine below_tr (by assumption) ?_ (by first | omega | (simp; done) | (simp; omega)) | fail)))).mono ?_
  rintro e w1 ⟨rfl, hb1⟩
  obtain ⟨hc, hf⟩ := bcell hb1
  have hz := hb1.size
  simp at hz
  have hB : Below w.heap.size w w1 := (by repeat (first | with_reducible exact Below.refl _ _ | with_reducible assumption | with_reducible refine Below.drew ?_ | with_reducible refine below_dN ?_ _ | with_reducible refine Below.setCell ?_ (by first | omega | (simp; done) | (simp; omega)) _ | with_reducible refine below_al ?_ (by first | omega | (simp; done) | (simp; omega)) _ | exact Below.refl _ _ | assumption | refine Below.drew ?_ | refine below_dN ?_ _ | refine Below.setCell ?_ (by first | omega | (simp; done) | (simp; omega)) _ | refine below_al ?_ (by first | omega | (simp; done) | (simp; omega)) _ | refine below_tr (by assumption) ?_ (by first | omega | (simp; done) | (simp; omega)) | fail))
  have HB := Lib.hid hB
  clear hb1 hB
  go_wp2
  go_ret
  exact ⟨rfl, HB.out⟩
theorem rnew_f (n lim : Int) (w : World) (h : n < 1 ∨ 1024 < n ∨ lim < 1 ∨ 1073741824 < lim) :
    Calls Try.prog 18 #[.int .i64 n, .int .i64 lim] w fun e w' => e = .returned (.tuple #[.pointer none, .int .i64 1]) ∧ w = w' := by
  by_cases h1 : n < 1
  · clear h
    go_enter Try.func18, Try.ntmps18
    go_wp2
    go_ret2
    exact ⟨rfl, rfl⟩
  by_cases h2 : 1024 < n
  · clear h
    go_enter Try.func18, Try.ntmps18
    go_wp2
    go_ret2
    exact ⟨rfl, rfl⟩
  by_cases h3 : lim < 1
  · clear h
    go_enter Try.func18, Try.ntmps18
    go_wp2
    go_ret2
    exact ⟨rfl, rfl⟩
  · have h4 : 1073741824 < lim := by omega
    clear h
    go_enter Try.func18, Try.ntmps18
    go_wp2
    go_ret2
    exact ⟨rfl, rfl⟩
set_option maxHeartbeats 2000000 in
theorem rnew_s (n : Nat) (lim : Int) (w : World) (n0 : 1 ≤ n) (n1 : n ≤ 1024) (l0 : 1 ≤ lim) (l1 : lim ≤ 1073741824) :
    Calls Try.prog 18 #[.int .i64 n, .int .i64 lim] w fun e w' => ∃ gr bN, e = .returned (.tuple #[.pointer (some ⟨gr, 0, none⟩), .int .i64 0]) ∧ RM w' w.heap.size gr (newR n lim) (.slice none 0 0) bN ∧ Below w.heap.size w w' := by
  have hmk57 := run_make_row' (P := Try.prog) 57 30 (.int .u16 0) 2 Try.underlying57 info30 rfl .i64 .i64 n (by omega) (by omega)
  have hu70 := Try.underlying70
  go_enter Try.func18, Try.ntmps18
  go_wp2
  go_ret2
  refine ⟨w.heap.size + 1, w.heap.size, rfl, ?_, (by repeat (first | with_reducible exact Below.refl _ _ | with_reducible assumption | with_reducible refine Below.drew ?_ | with_reducible refine below_dN ?_ _ | with_reducible refine Below.setCell ?_ (by first | omega | (simp; done) | (simp; omega)) _ | with_reducible refine below_al ?_ (by first | omega | (simp; done) | (simp; omega)) _ | exact Below.refl _ _ | assumption | refine Below.drew ?_ | refine below_dN ?_ _ | refine Below.setCell ?_ (by first | omega | (simp; done) | (simp; omega)) _ | refine below_al ?_ (by first | omega | (simp; done) | (simp; omega)) _ | refine below_tr (by assumption) ?_ (by first | omega | (simp; done) | (simp; omega)) | fail))⟩
  exact { g := al_new _ _ _ (by simp), l := ⟨rfl, .inl ⟨rfl, rfl⟩⟩, s := ⟨_, (al_old _ _ _ (by simp)).trans (al_new _ _ _ rfl), made_size _ _, fun t ht => made_get _ _ _ ht⟩, d := (fun e he => by cases he), dd := (fun b hb => by obtain ⟨e, he, _⟩ := hb; cases he), ne := (by omega), n1 := (by simp [Value.ownBlock]), n2 := (by simp [Value.ownBlock]), lo := (by omega), lo2 := (by omega), hb := (by simp; omega) }
