/- Layer 16: slices of messages, bytes, clones. -/
import Derived.Test.YtbppdgekjdpgiaaK
import Derived.Deep.QuietTactic
import Derived.Deep.RegionHeld3
import Derived.Deep.RegionLaw
import Derived.Deep.DrawnRows
import Derived.Deep.AppendLies
import Derived.Maps.AppendAt
import Derived.ArgAppend
import Derived.Laws.AppendOwnNone
import Derived.BigQuiet
import Derived.StillTailTactics
namespace Go.Proofs.Ytbppdgekjdpgiaa.C
open Go.RowKit
set_option linter.unusedVariables false
set_option linter.unusedSimpArgs false
attribute [local go_sem high] max2_mx min2_mn max_two min_two
attribute [local go_sem ↓] Go.wp_at_zero Go.wp_at_succ

theorem info63 : (Try.prog.info? 63).map (fun i => (i.zero, i.size, i.bytes)) = some (some (.pointer none), 1, 8) := by kernel_rfl
theorem info5 : (Try.prog.info? 5).map (fun i => (i.zero, i.size, i.bytes)) = some (some (.int .u8 0), 1, 1) := by kernel_rfl
/-- the slice value v reads as the pointers ps -/
def SV (w : World) (v : Value) (ps : List Value) : Prop :=
  (v = .slice none 0 0 ∧ ps = []) ∨ ∃ b off cap arr, v = .slice (some ⟨b, off, none⟩) ps.length cap ∧ w.heap[b]? = some (.cells arr 63 (0, 0)) ∧ ps.length ≤ cap ∧ off + cap ≤ arr.size ∧ ∀ j u, ps[j]? = some u → arr[off + j]? = some u
theorem SV.keep {w w' : World} {v : Value} {ps : List Value} (h : SV w v ps) (hb : ∀ b, v.ownBlock = some b → w'.heap[b]? = w.heap[b]?) : SV w' v ps := by
  rcases h with h | ⟨b, off, cap, arr, rfl, h1, h2, h3, h4⟩
  · exact .inl h
  · exact .inr ⟨b, off, cap, arr, rfl, by rw [hb b rfl]; exact h1, h2, h3, h4⟩
theorem SV.lt {w : World} {v : Value} {ps : List Value} (h : SV w v ps) : ∀ b, v.ownBlock = some b → b < w.heap.size := by
  intro b hb
  rcases h with ⟨rfl, _⟩ | ⟨b', off, cap, arr, rfl, h1, h2, h3, h4⟩
  · cases hb
  · obtain rfl : b' = b := by simpa [Value.ownBlock] using hb
    exact (Array.getElem?_eq_some_iff.1 h1).1
theorem SV.form {w : World} {v : Value} {ps : List Value} (h : SV w v ps) : ∃ a c, v = .slice a ps.length c ∧ ps.length ≤ c ∧ (a = none → c = 0) ∧ (0 < ps.length → ∃ b off, a = some ⟨b, off, none⟩ ∧ ∀ j u, ps[j]? = some u → w.cell? ⟨b, off + j, none⟩ = some u) := by
  rcases h with ⟨rfl, rfl⟩ | ⟨b', off, cap, arr, rfl, h1, h2, h3, h4⟩
  · exact ⟨none, 0, rfl, Nat.le_refl _, fun _ => rfl, fun h => absurd h (by simp)⟩
  · exact ⟨_, cap, rfl, h2, (fun h => by cases h), fun _ => ⟨b', off, rfl, fun j u hj => by rw [cell_of_row w b' (off + j) arr 63 (0, 0) h1]; exact h4 j u hj⟩⟩
/-- the first is taken off -/
theorem SV.pop {w : World} {a : Option Addr} {n c : Nat} {p : Value} {ps : List Value} (h : SV w (.slice a n c) (p :: ps)) : SV w (.slice (a.map fun x => if c = 1 then x else x.add 1) (n - 1) (c - 1)) ps := by
  rcases h with ⟨h1, h2⟩ | ⟨b, off, cap, arr, h0, h1, h2, h3, h4⟩
  · cases h2
  · injection h0 with e1 e2 e3
    subst e1 e2 e3
    simp only [List.length_cons] at h2 ⊢
    by_cases hc : c = 1
    · subst hc
      refine .inr ⟨b, off, 0, arr, by simp, h1, by omega, by omega, fun j u hj => ?_⟩
      have hl : ps.length = 0 := by omega
      rw [List.eq_nil_of_length_eq_zero hl] at hj
      cases hj
    · refine .inr ⟨b, off + 1, c - 1, arr, by simp [hc, Addr.add], h1, by omega, by omega, fun j u hj => ?_⟩
      have := h4 (j + 1) u (by simpa using hj)
      rw [← this]
      congr 1
      omega
section
variable {w : World} {o : Oper} {a : Act} {K : Act → World → Prop} {Q : Exit → Act → World → Prop}
/-- one more is put behind -/
theorem wp_append_ptr (s x : Operand) (hop : o.op = Op.call { callee := Callee.builtin Builtin.append, args := #[s, x], argTypes := #[67, 67] })
    (v : Value) (ps : List Value) (hs : a.eval s = v) (hv : SV w v ps) (hlen : ps.length ≤ 1073741824) (ad : Addr) (c : Nat) (p : Value) (hx : a.eval x = .slice (some ad) 1 c) (hc : w.cell? (ad.add 0) = some p) (h1 : p.oneCell' = true)
    (hK : ∀ v' w', SV w' v' (ps ++ [p]) → w.grownBy w' v.ownBlock → (v'.ownBlock = v.ownBlock ∨ ∃ b, v'.ownBlock = some b ∧ w.heap.size ≤ b) → K (a.put o.dst v') w') : Oper.wp Try.prog o a w K Q := by
  obtain ⟨i0, hi, hz0, hz1, hz2⟩ := info_parts info63
  have hnews : ∀ j u, [p][j]? = some u → w.cell? (ad.add j) = some u := fun j u hj => by
    cases j with
    | zero => simp at hj; subst hj; exact hc
    | succ j => simp at hj
  have hone : ∀ u ∈ [p], u.oneCell' = true := fun u hu => by simp at hu; subst hu; exact h1
  have grows : ∀ v' w', w'.ownsRow w.heap.size 63 1 v' (ps.length + 1) (ps ++ [p]) → w.grownBy w' none → K (a.put o.dst v') w' := fun v' w' hr hg => by
    rcases hr.2 with ⟨_, h0⟩ | ⟨g, cap, cur, rfl, hb, hh, hn, hm, hsz, htk⟩
    · omega
    · refine hK _ _ (.inr ⟨g, 0, cap, cur, by simp, hh, by simpa using hn, by omega, fun j u hj => ?_⟩) ⟨hg.os, hg.tape, hg.output, hg.size, fun k hk _ => hg.block k hk (by simp)⟩ (.inr ⟨g, rfl, hb⟩)
      have hj' : j < (ps ++ [p]).length := (List.getElem?_eq_some_iff.1 hj).1
      rw [← htk] at hj
      rw [List.getElem?_take] at hj
      split at hj
      · simpa using hj
      · cases hj
  rcases hv with ⟨rfl, rfl⟩ | ⟨b, off, cap, arr, rfl, hb, hn, hsz, hel⟩
  · obtain ⟨v', w', hrun, r1, r2, _⟩ := run_append_own (P := Try.prog) w w.heap.size 67 o.type 63 i0 (.pointer none) 1 8 Try.underlying67 hi hz0 hz1 hz2 rfl (by omega) (.slice none 0 0) 0 [] (World.ownsRow_nil w _ 63 1) ad 1 c [p] rfl hnews hone (by simp [maxLen]) (by omega) (Nat.le_refl _)
    unfold Oper.wp
    simp [execOp, hop, resolve, invoke, builtin, hs, hx, hrun, Result.andThen]
    exact grows v' w' r1 r2
  · by_cases hr : ps.length + 1 ≤ cap
    · have hcell : w.cell? ⟨b, off + ps.length, none⟩ = arr[off + ps.length]? := cell_of_row w b (off + ps.length) arr 63 (0, 0) hb
      have hlt : off + ps.length < arr.size := by omega
      have hrun := run_append_room_cells (P := Try.prog) (w := w) 67 o.type 63 i0 Try.underlying67 hi b off ps.length cap ad 1 c [p] (by rw [hz1]; rfl) hnews hone hr (fun j hj => by
        obtain rfl : j = 0 := by simpa using hj
        rw [hz1, Nat.mul_one, Nat.add_zero, hcell, Array.getElem?_eq_getElem hlt]; rfl) (fun j hj => by
        rw [frozen_of_row w b _ arr 63 hb])
      rw [hz1, Nat.mul_one] at hrun
      unfold Oper.wp
      simp [execOp, hop, resolve, invoke, builtin, hs, hx, hrun, Result.andThen]
      have hw : w.setCells b (off + ps.length) [p] = w.setCell ⟨b, off + ps.length, none⟩ p := by simp [World.setCells]
      rw [hw]
      have hset := heap_setCell_same w b (off + ps.length) arr 63 p hb
      refine hK _ _ (.inr ⟨b, off, cap, _, by simp, hset, by simpa using hr, by simpa using hsz, fun j u hj => ?_⟩) ⟨rfl, rfl, rfl, by simp, fun k _ hk => heap_setCell_other w ⟨b, off + ps.length, none⟩ k p (fun e => hk (by simp [e, Value.ownBlock]))⟩ (.inl rfl)
      by_cases hjl : j < ps.length
      · rw [List.getElem?_append_left hjl] at hj
        rw [Array.getElem?_setIfInBounds_ne (by omega)]
        exact hel j u hj
      · have hj2 : j < (ps ++ [p]).length := (List.getElem?_eq_some_iff.1 hj).1
        obtain rfl : j = ps.length := by simp at hj2; omega
        simp at hj
        subst hj
        rw [Array.getElem?_setIfInBounds_self]
        simp [hlt]
    · obtain ⟨v', w', hrun, r1, r2⟩ := run_append_arg_grows (P := Try.prog) w 67 o.type 63 i0 (.pointer none) 1 8 Try.underlying67 hi hz0 hz1 hz2 rfl (by omega) ⟨b, off, none⟩ ps.length cap ps (by simp) (fun j u hj => by rw [Addr.add_lit, cell_of_row w b (off + j) arr 63 (0, 0) hb]; exact hel j u hj) ad 1 c [p] rfl hnews (by omega) (by simp [maxLen]; omega) (by omega)
      unfold Oper.wp
      simp [execOp, hop, resolve, invoke, builtin, hs, hx, hrun, Result.andThen]
      exact grows v' w' r1 r2
end
/-! ### bytes -/
def nums8 (xs : List Int) : List Value := xs.map fun x => .int .u8 x
theorem Rd.cons_drop {w : World} {ad : Addr} {n : Nat} {xs : List Int} (h : Rd .u8 w (some ad) n xs) (d : Nat) (hd : d < n) : Rd .u8 w (some (ad.add d)) (n - d) (xs.drop d) := by
  refine ⟨by rw [List.length_drop, h.1], by have := h.2.1; omega, fun h0 => ⟨_, rfl, fun j hj => ?_⟩⟩
  obtain ⟨ad', e, hc⟩ := h.2.2 (by omega)
  obtain rfl := Option.some.inj e
  have e : (ad.add d).add j = ad.add (d + j) := by
    unfold Addr.add
    (repeat' split) <;> simp_all <;> omega
  rw [e, hc (d + j) (by omega)]
  simp [rdI, List.getD]
theorem Rd.take_ {w : World} {A : Option Addr} {n : Nat} {xs : List Int} (h : Rd .u8 w A n xs) (d : Nat) (hd : d ≤ n) : Rd .u8 w A d (xs.take d) := by
  refine ⟨by rw [List.length_take, h.1]; omega, by have := h.2.1; omega, fun h0 => ?_⟩
  obtain ⟨ad', rfl, hc⟩ := h.2.2 (by omega)
  refine ⟨_, rfl, fun j hj => ?_⟩
  rw [hc j (by omega)]
  simp [rdI, List.getD, List.getElem?_take, hj]
section
variable {P : Program} {ops : Array Oper} {rest : List Oper} {w : World} {o : Oper} {a : Act} {Q : Exit → Act → World → Prop}
theorem wpList_append_rd8 (hgd : o.guard = none) (s x : Operand) (t : TypeId)
    (ho : o.op = .call { callee := .builtin .append, args := #[s, x], argTypes := #[t, t] })
    (base : Nat) (e : TypeId) (i : TypeInfo) (ht : P.underlying t = some (.slice e)) (hi : P.info? e = some i) (hz : i.zero = some (.int .u8 0))
    (hsize : i.size = 1) (hby : i.bytes = 1)
    (v : Value) (n : Nat) (ys : List Int) (hs : a.eval s = v) (hown : w.ownsRow base e 1 v n (nums8 ys))
    (A : Option Addr) (m c : Nat) (xs : List Int) (hx : a.eval x = .slice A m c) (hr : Rd .u8 w A m xs) (hA : A = none → c = 0)
    (hbytes : (n + m) * 1 ≤ 140737488355328) (hbase : base ≤ w.heap.size)
    (h : ∀ v' w', w'.ownsRow base e 1 v' (n + m) (nums8 (ys ++ xs)) → w.grownBy w' v.ownBlock → wpList P ops Q rest (a.put o.dst v') w') : wpList P ops Q (o :: rest) a w := by
  have hnums : nums8 (ys ++ xs) = nums8 ys ++ nums8 xs := by simp [nums8]
  cases A with
  | none =>
    obtain rfl := hA rfl
    have hm : m = 0 := by
      rcases Nat.eq_zero_or_pos m with h0 | h0
      · exact h0
      · obtain ⟨ad, h1, _⟩ := hr.2.2 h0
        cases h1
    subst hm
    have hxs : xs = [] := List.eq_nil_of_length_eq_zero hr.1
    subst hxs
    refine wpList_append_own_none hgd s x t ho base e i 1 ht hi v n (nums8 ys) hs hown hx (h v w (by simpa using hown) (World.grownBy.refl w _))
  | some ad =>
    refine wpList_append_own_at w hgd s x t ho base e i (.int .u8 0) 1 1 ht hi hz hsize hby rfl (by omega) v n (nums8 ys) hs hown ad m c (nums8 xs) hx (by simp [nums8, hr.1]) (fun j u hu => ?_) (by simp [nums8, Value.oneCell']) (by simp only [maxLen]; omega) hbytes hbase ?_
    · simp [nums8] at hu
      obtain ⟨y, hy, rfl⟩ := hu
      have hj : j < xs.length := by
        rcases Nat.lt_or_ge j xs.length with h0 | h0
        · exact h0
        · rw [List.getElem?_eq_none h0] at hy; cases hy
      obtain ⟨ad', h1, h2⟩ := hr.2.2 (by have := hr.1; omega)
      obtain rfl := Option.some.inj h1
      rw [h2 j (by have := hr.1; omega)]
      simp [rdI, hy]
    · intro v' w' h1 h2 _ _
      exact h v' w' (by rw [hnums]; exact h1) h2
end
theorem own8_empty (W : World) (base : Nat) (e : TypeId) (hb : base ≤ W.heap.size) : (W.alloc (.cells #[] e)).ownsRow base e 1 (.slice (some ⟨W.heap.size, 0, none⟩) 0 0) 0 (nums8 []) :=
  ⟨rfl, .inr ⟨_, 0, #[], rfl, hb, heap_alloc_new W _, Nat.le_refl _, by decide, rfl, rfl⟩⟩
theorem own8_rd {w : World} {base g n c : Nat} {e : TypeId} {xs : List Int} (h : w.ownsRow base e 1 (.slice (some ⟨g, 0, none⟩) n c) n (nums8 xs)) : Rd .u8 w (some ⟨g, 0, none⟩) n xs ∧ base ≤ g ∧ n ≤ c := by
  have hl : xs.length = n := by have := h.1; simp [nums8] at this; exact this
  rcases h.2 with ⟨h1, _⟩ | ⟨g', cap, cur, h1, hb, hh, hcap, hm, hsz, htk⟩
  · cases h1
  injection h1 with h1 h2 h3
  obtain rfl : g = g' := by injection h1 with h1; injection h1
  subst h3
  refine ⟨⟨hl, by simp only [maxLen] at hm; omega, fun h0 => ⟨_, rfl, fun j hj => ?_⟩⟩, hb, hcap⟩
  rw [add_plain, cell_of_row w g j cur e (0, 0) hh]
  have := congrArg (fun l => l[j]?) htk
  simp only [Nat.mul_one, nums8, List.getElem?_map, List.getElem?_take, if_pos hj] at this
  rw [Array.getElem?_toList] at this
  rw [this]
  simp [rdI, List.getElem?_eq_getElem (show j < xs.length by omega)]
/-- bytes of their own are told -/
def Ret8 (xs : List Int) (w : World) (e : Ending) (w' : World) : Prop := ∃ g c, e = .returned (.slice (some ⟨g, 0, none⟩) xs.length c) ∧ Rd .u8 w' (some ⟨g, 0, none⟩) xs.length xs ∧ w.heap.size ≤ g ∧ xs.length ≤ c ∧ w'.ownsRow w.heap.size 5 1 (.slice (some ⟨g, 0, none⟩) xs.length c) xs.length (nums8 xs) ∧ Below w.heap.size w w'
set_option maxHeartbeats 1000000 in
theorem clone (A : Option Addr) (n c : Nat) (xs : List Int) (w : World) (hr : Rd .u8 w A n xs) (h0 : 0 < n) (hn : n ≤ 140737488351232) :
    Calls Try.prog 22 #[.slice A n c] w (Ret8 xs w) := by
  obtain ⟨i0, hi0, hz0, hz1, hz2⟩ := info_parts info5
  have heq := fun (W : World) => Lib.run_eql_slice_nil (P := Try.prog) W 32 5 A n c 0 0 Try.underlying32
  have hA : A.isNone = false := by obtain ⟨ad, rfl, _⟩ := hr.2.2 h0; rfl
  have hA2 : A = none → c = 0 := fun h => by rw [h] at hA; cases hA
  have HR := Lib.hid hr
  have HA2 := Lib.hid hA2
  clear hr hA2
  go_enter Try.func22, Try.ntmps22
  go_wp2_with (at_builtin; refine wpList_append_rd8 rfl _ _ _ rfl w.heap.size 5 i0 Try.underlying32 hi0 hz0 hz1 hz2 _ 0 [] rfl (own8_empty w w.heap.size 5 (Nat.le_refl _)) A n c xs rfl (Rd.below HR.out (by repeat (first | with_reducible exact Below.refl _ _ | with_reducible assumption | with_reducible refine Below.drew ?_ | with_reducible refine below_dN ?_ _ | with_reducible refine Below.setCell ?_ (by first | omega | (simp; done) | (simp; omega)) _ | with_reducible refine below_al ?_ (by first | omega | (simp; done) | (simp; omega)) _ | exact Below.refl _ _ | assumption | refine Below.drew ?_ | refine below_dN ?_ _ | refine Below.setCell ?_ (by first | omega | (simp; done) | (simp; omega)) _ | refine below_al ?_ (by first | omega | (simp; done) | (simp; omega)) _ | refine below_tr (by assumption) ?_ (by first | omega | (simp; done) | (simp; omega)) | fail))) HA2.out (by omega) (by simp) ?_; intro v' w' hown hg)
  have hl : xs.length = n := HR.out.1
  have h1 : w'.ownsRow w.heap.size 5 1 v' n (nums8 xs) := by simpa using hown
  have hB : Below w.heap.size w w' := below_app (W := w.alloc (.cells #[] 5)) (by repeat (first | with_reducible exact Below.refl _ _ | with_reducible assumption | with_reducible refine Below.drew ?_ | with_reducible refine below_dN ?_ _ | with_reducible refine Below.setCell ?_ (by first | omega | (simp; done) | (simp; omega)) _ | with_reducible refine below_al ?_ (by first | omega | (simp; done) | (simp; omega)) _ | exact Below.refl _ _ | assumption | refine Below.drew ?_ | refine below_dN ?_ _ | refine Below.setCell ?_ (by first | omega | (simp; done) | (simp; omega)) _ | refine below_al ?_ (by first | omega | (simp; done) | (simp; omega)) _ | refine below_tr (by assumption) ?_ (by first | omega | (simp; done) | (simp; omega)) | fail)) (by simp) (own8_empty w w.heap.size 5 (Nat.le_refl _)) hg
  clear hown hg heq
  obtain ⟨g, c', rfl⟩ : ∃ g c, v' = .slice (some ⟨g, 0, none⟩) n c := by
    rcases h1.2 with ⟨_, h2⟩ | ⟨g, cap, cur, rfl, _⟩
    · omega
    · exact ⟨g, cap, rfl⟩
  obtain ⟨k1, k2, k3⟩ := own8_rd h1
  subst hl
  go_ret
  exact ⟨g, c', rfl, k1, k2, k3, h1, hB⟩
