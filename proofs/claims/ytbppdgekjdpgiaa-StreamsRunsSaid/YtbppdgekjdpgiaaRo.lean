/- Layer 16: rows of structs of one's own: cells, appends. -/
import Derived.Test.YtbppdgekjdpgiaaOw
namespace Go.Proofs.Ytbppdgekjdpgiaa.C
open Go.RowKit
set_option linter.unusedVariables false
set_option linter.unusedSimpArgs false

section
variable {α : Type} {f : α → List Value} {k : Nat}
theorem flat_len (hf : ∀ z, (f z).length = k) (zs : List α) : (zs.flatMap f).length = zs.length * k := by
  induction zs with
  | nil => simp
  | cons z zs ih => rw [List.flatMap_cons, List.length_append, ih, hf, List.length_cons, Nat.succ_mul]; omega
theorem flat_get (hf : ∀ z, (f z).length = k) (zs : List α) (i j : Nat) (z : α) (hi : zs[i]? = some z) (hj : j < k) : (zs.flatMap f)[i * k + j]? = (f z)[j]? := by
  induction zs generalizing i with
  | nil => simp at hi
  | cons a zs ih =>
    rw [List.flatMap_cons]
    cases i with
    | zero =>
      simp at hi
      subst hi
      rw [Nat.zero_mul, Nat.zero_add, List.getElem?_append_left (by rw [hf]; exact hj)]
    | succ i =>
      rw [List.getElem?_append_right (by rw [hf, Nat.succ_mul]; omega), hf]
      rw [show (i + 1) * k + j - k = i * k + j from by rw [Nat.succ_mul]; omega]
      exact ih i (by simpa using hi)
theorem flat_take (hf : ∀ z, (f z).length = k) (zs : List α) (i : Nat) (hi : i ≤ zs.length) : (zs.flatMap f).take (i * k) = (zs.take i).flatMap f := by
  conv => lhs; rw [← List.take_append_drop i zs, List.flatMap_append]
  rw [List.take_append_of_le_length (by rw [flat_len hf, List.length_take, Nat.min_eq_left hi]; exact Nat.le_refl _)]
  exact List.take_of_length_le (by rw [flat_len hf, List.length_take, Nat.min_eq_left hi]; exact Nat.le_refl _)
theorem flat_drop (hf : ∀ z, (f z).length = k) (zs : List α) (i : Nat) (hi : i ≤ zs.length) : (zs.flatMap f).drop (i * k) = (zs.drop i).flatMap f := by
  conv => lhs; rw [← List.take_append_drop i zs, List.flatMap_append]
  rw [List.drop_append_of_le_length (by rw [flat_len hf, List.length_take, Nat.min_eq_left hi]; exact Nat.le_refl _)]
  rw [List.drop_eq_nil_of_le (by rw [flat_len hf, List.length_take, Nat.min_eq_left hi]; exact Nat.le_refl _), List.nil_append]
end
theorem add_off (g o j : Nat) : (⟨g, o, none⟩ : Addr).add j = ⟨g, o + j, none⟩ := by unfold Addr.add; split <;> simp_all
/-- what is appended: m elements at A -/
def Src (w : World) (A : Option Addr) (m size : Nat) (news : List Value) : Prop :=
  news.length = m * size ∧ (∀ ad, A = some ad → ∀ j u, news[j]? = some u → w.cell? (ad.add j) = some u) ∧ (A = none → m = 0)
section
variable {P : Program} {ops : Array Oper} {rest : List Oper} {w : World} {o : Oper} {a : Act} {Q : Exit → Act → World → Prop}
theorem wpList_append_src (hgd : o.guard = none) (s x : Operand) (t : TypeId)
    (ho : o.op = .call { callee := .builtin .append, args := #[s, x], argTypes := #[t, t] })
    (base : Nat) (e : TypeId) (i : TypeInfo) (z : Value) (size bytes : Nat) (ht : P.underlying t = some (.slice e)) (hi : P.info? e = some i) (hz : i.zero = some z)
    (hsize : i.size = size) (hby : i.bytes = bytes) (hzs : z.cells.size = size) (hsz : 0 < size)
    (v : Value) (n : Nat) (xs : List Value) (hs : a.eval s = v) (hown : w.ownsRow base e size v n xs)
    (A : Option Addr) (m c : Nat) (news : List Value) (hx : a.eval x = .slice A m c) (hr : Src w A m size news) (hA : A = none → c = 0) (h1 : ∀ u ∈ news, u.oneCell' = true)
    (h63 : n + m ≤ maxLen) (hbytes : (n + m) * bytes ≤ 140737488355328) (hbase : base ≤ w.heap.size)
    (h : ∀ v' w', w'.ownsRow base e size v' (n + m) (xs ++ news) → w.grownBy w' v.ownBlock → (v'.ownBlock = v.ownBlock ∨ v'.ownBlock = some w.heap.size) → wpList P ops Q rest (a.put o.dst v') w') : wpList P ops Q (o :: rest) a w := by
  obtain ⟨r1, r2, r3⟩ := hr
  cases A with
  | none =>
    obtain rfl := hA rfl
    obtain rfl := r3 rfl
    have hn : news = [] := List.eq_nil_of_length_eq_zero (by simpa using r1)
    subst hn
    exact wpList_append_own_none hgd s x t ho base e i size ht hi v n xs hs hown hx (h v w (by simpa using hown) (World.grownBy.refl w _) (.inl rfl))
  | some ad => exact wpList_append_own_at w hgd s x t ho base e i z size bytes ht hi hz hsize hby hzs hsz v n xs hs hown ad m c news hx r1 (r2 ad rfl) h1 h63 hbytes hbase (fun v' w' h2 h3 _ h5 => h v' w' h2 h3 h5)
end
theorem own_below {w w' : World} {base : Nat} {e : TypeId} {size : Nat} {v : Value} {n : Nat} {xs : List Value} (h : w.ownsRow base e size v n xs) (hb : ∀ b, v.ownBlock = some b → w'.heap[b]? = w.heap[b]?) : w'.ownsRow base e size v n xs := by
  refine ⟨h.1, ?_⟩
  rcases h.2 with h1 | ⟨g, cap, cur, rfl, hb1, hh, hr⟩
  · exact .inl h1
  · exact .inr ⟨g, cap, cur, rfl, hb1, by rw [hb g rfl]; exact hh, hr⟩
theorem own_base {w : World} {base base' : Nat} {e : TypeId} {size : Nat} {v : Value} {n : Nat} {xs : List Value} (h : w.ownsRow base e size v n xs) (hb : base' ≤ base) : w.ownsRow base' e size v n xs := by
  refine ⟨h.1, ?_⟩
  rcases h.2 with h1 | ⟨g, cap, cur, rfl, hb1, hr⟩
  · exact .inl h1
  · exact .inr ⟨g, cap, cur, rfl, Nat.le_trans hb hb1, hr⟩
theorem own_lt {w : World} {base : Nat} {e : TypeId} {size : Nat} {v : Value} {n : Nat} {xs : List Value} (h : w.ownsRow base e size v n xs) : ∀ b, v.ownBlock = some b → base ≤ b ∧ b < w.heap.size := by
  intro b hb
  rcases h.2 with ⟨rfl, _⟩ | ⟨g, cap, cur, rfl, hb1, hh, hr⟩
  · cases hb
  · obtain rfl : g = b := by simpa [Value.ownBlock] using hb
    exact ⟨hb1, lt_of_heap hh⟩
/-- a row of one's own, as a slice -/
theorem own_form {w : World} {base : Nat} {e : TypeId} {size : Nat} {v : Value} {n : Nat} {xs : List Value} (h : w.ownsRow base e size v n xs) :
    ∃ A c, v = .slice A n c ∧ n ≤ c ∧ c ≤ maxLen ∧ (A = none → n = 0 ∧ c = 0) ∧ ∀ ad, A = some ad → ∃ g, ad = ⟨g, 0, none⟩ ∧ v.ownBlock = some g ∧ ∀ j u, xs[j]? = some u → w.cell? ⟨g, j, none⟩ = some u := by
  rcases h.2 with ⟨rfl, h0⟩ | ⟨g, cap, cur, rfl, hb1, hh, hcap, hm, hsz, htk⟩
  · exact ⟨none, 0, by rw [h0], by omega, by decide, fun _ => ⟨h0, rfl⟩, fun ad e => by cases e⟩
  · refine ⟨_, cap, rfl, hcap, hm, (fun e => by cases e), fun ad ea => ⟨g, (by injection ea with ea; exact ea.symm), rfl, fun j u hj => ?_⟩⟩
    rw [cell_of_row w g j cur e (0, 0) hh]
    rw [← htk, List.getElem?_take] at hj
    split at hj
    · rwa [Array.getElem?_toList] at hj
    · cases hj
/-- the first i, the rest behind i -/
theorem own_src {w : World} {base : Nat} {e : TypeId} {size n c i : Nat} {g : Nat} {xs : List Value} (h : w.ownsRow base e size (.slice (some ⟨g, 0, none⟩) n c) n xs) (hi : i ≤ n) (A : Addr) (hA : A = ⟨g, i * size, none⟩ ∨ i = n) : Src w (some A) (n - i) size (xs.drop (i * size)) := by
  have hl := h.1
  refine ⟨by rw [List.length_drop, hl, Nat.sub_mul], fun ad ea j u hj => ?_, fun e => by cases e⟩
  obtain rfl := Option.some.inj ea
  rcases hA with rfl | rfl
  · rw [List.getElem?_drop] at hj
    obtain ⟨A', c', e1, _, _, _, h5⟩ := own_form h
    injection e1 with e1 _ _
    obtain ⟨g', e2, _, h6⟩ := h5 _ e1.symm
    injection e2 with e2 _ _
    subst e2
    rw [add_off]
    exact h6 _ u hj
  · rw [List.getElem?_eq_none (by rw [List.length_drop, hl]; omega)] at hj
    cases hj
theorem own_src_take {w : World} {base : Nat} {e : TypeId} {size n c i : Nat} {g : Nat} {xs : List Value} (h : w.ownsRow base e size (.slice (some ⟨g, 0, none⟩) n c) n xs) (hi : i ≤ n) : Src w (some ⟨g, 0, none⟩) i size (xs.take (i * size)) := by
  have hl := h.1
  refine ⟨by rw [List.length_take, hl]; exact Nat.min_eq_left (Nat.mul_le_mul_right _ hi), fun ad ea j u hj => ?_, fun e => by cases e⟩
  obtain rfl := Option.some.inj ea
  rw [List.getElem?_take] at hj
  split at hj
  · obtain ⟨A', c', e1, _, _, _, h5⟩ := own_form h
    injection e1 with e1 _ _
    obtain ⟨g', e2, _, h6⟩ := h5 _ e1.symm
    injection e2 with e2 _ _
    subst e2
    rw [add_plain]
    exact h6 _ u hj
  · cases hj
section
variable {w w' : World} {base g : Nat} {q : QS} {F : Nat → Prop} {blk : Option Nat}
/-- a foreign row has grown -/
theorem OQ.grown (h : OQ w base g q F) (hg : w.grownBy w' blk) (hb : ∀ b, blk = some b → F b) : OQ w' base g q (fun b => (b < w.heap.size ∧ F b) ∨ w.heap.size ≤ b) := by
  obtain ⟨hbs, L, h1, h2⟩ := h
  have hr : ∀ b, b < w.heap.size → (if b < w.heap.size then L.role b else (9, 0, 0)) = L.role b := fun b hb => if_pos hb
  refine ⟨Nat.le_trans hbs hg.size, { L with role := fun b => if b < w.heap.size then L.role b else (9, 0, 0) }, (h1.reRole _ hr).frame hg.size (fun k hk hne => hg.block k hk (fun e => ?_)), fun b hbF => ?_⟩
  · exact hne ((hr k hk).trans (h2 k (hb k e.symm)))
  · show (if b < w.heap.size then L.role b else (9, 0, 0)) = _
    rcases hbF with ⟨h3, h4⟩ | h3
    · rw [if_pos h3]; exact h2 b h4
    · rw [if_neg (by omega)]
end
