/- Layer 16: what holds of every queue (plain law, no program). -/
import Derived.Test.YtbppdgekjdpgiaaY
namespace Go.Proofs.Ytbppdgekjdpgiaa.C
open Go.RowKit
set_option linter.unusedVariables false
set_option linter.unusedSimpArgs false

/-- the bytes of a row of messages -/
def tot (ms : List Msg) : Nat := (ms.map fun m => m.data.length).sum
theorem tot_cons (m : Msg) (ms : List Msg) : tot (m :: ms) = m.data.length + tot ms := by simp [tot]
theorem tot_snoc (m : Msg) (ms : List Msg) : tot (ms ++ [m]) = tot ms + m.data.length := by simp [tot]
theorem tot_ge (ms : List Msg) (m : Msg) (h : m ∈ ms) : m.data.length ≤ tot ms := by
  induction ms with
  | nil => cases h
  | cons a l ih =>
    rw [tot_cons]
    rcases List.mem_cons.1 h with rfl | h
    · omega
    · have := ih h; omega
theorem tot_len (ms : List Msg) (h : ∀ m ∈ ms, 0 < m.data.length) : ms.length ≤ tot ms := by
  induction ms with
  | nil => simp
  | cons a l ih =>
    have h1 := ih fun m hm => h m (List.mem_cons_of_mem _ hm)
    have h2 := h a (List.mem_cons_self ..)
    rw [tot_cons, List.length_cons]
    omega
def wsum : Nat → (Nat → List Msg) → Nat
  | 0, _ => 0
  | n + 1, ss => wsum n ss + tot (ss n)
theorem wsum_congr (n : Nat) (f g : Nat → List Msg) (h : ∀ s, s < n → f s = g s) : wsum n f = wsum n g := by
  induction n with
  | zero => rfl
  | succ n ih => unfold wsum; rw [ih fun s hs => h s (by omega), h n (by omega)]
theorem wsum_upd (n : Nat) (ss : Nat → List Msg) (s : Nat) (x : List Msg) (hs : s < n) : wsum n (upd ss s x) + tot (ss s) = wsum n ss + tot x := by
  induction n with
  | zero => omega
  | succ n ih =>
    unfold wsum
    by_cases h : s = n
    · subst h
      rw [upd_same, wsum_congr s (upd ss s x) ss fun t ht => upd_ne ss s t x (by omega)]
      omega
    · rw [upd_ne ss s n x (by omega)]
      have := ih (by omega)
      omega
theorem wsum_ge (n : Nat) (ss : Nat → List Msg) (s : Nat) (hs : s < n) : tot (ss s) ≤ wsum n ss := by
  induction n with
  | zero => omega
  | succ n ih =>
    unfold wsum
    by_cases h : s = n
    · subst h; omega
    · have := ih (by omega); omega
theorem wsum_zero (n : Nat) (ss : Nat → List Msg) (h : ∀ s, s < n → ss s = []) : wsum n ss = 0 := by
  induction n with
  | zero => rfl
  | succ n ih => unfold wsum; rw [ih fun s hs => h s (by omega), h n (by omega)]; rfl
/-- what holds of every queue -/
structure Inv (q : QS) : Prop where
  ok : Ok q
  sum : q.wai = wsum q.n q.ss
  ne : ∀ s, s < q.n → ∀ m ∈ q.ss s, 0 < m.data.length ∧ m.data.length ≤ 65536
  op : 0 ≤ q.opn → ∃ m ms, q.ss q.opn.toNat = m :: ms ∧ m.begun = true
  nb : ∀ s, s < q.n → ∀ k m, (q.ss s)[k]? = some m → m.begun = true → k = 0 ∧ q.opn = s
theorem Inv.new (n : Nat) (lim : Int) (n0 : 1 ≤ n) (n1 : n ≤ 1024) (l0 : 1 ≤ lim) (l1 : lim ≤ 1073741824) : Inv (newQ n lim) where
  ok := ⟨n0, n1, l0, l1, by simp [newQ], by simp [newQ], by simp [newQ]; omega, by simp [newQ], by simp [newQ]; omega, by simp [newQ], by simp [newQ]; omega⟩
  sum := by
    have : wsum n (fun _ => []) = 0 := wsum_zero _ _ fun _ _ => rfl
    simp [newQ, this]
  ne := fun s hs m hm => by simp [newQ] at hm
  op := fun h => by simp [newQ] at h
  nb := fun s hs k m hm => by simp [newQ] at hm
variable {q : QS}
theorem Inv.len (h : Inv q) (s : Nat) (hs : s < q.n) : (q.ss s).length ≤ 1073741824 := by
  have h1 := tot_len (q.ss s) fun m hm => (h.ne s hs m hm).1
  have h2 := wsum_ge q.n q.ss s hs
  have h3 := h.sum
  have := h.ok.wt
  have := h.ok.t0
  have := h.ok.m1
  omega
theorem Inv.head (h : Inv q) (s : Nat) (hs : s < q.n) (m : Msg) (ms : List Msg) (he : q.ss s = m :: ms) : 0 < m.data.length ∧ m.data.length ≤ 65536 ∧ (m.data.length : Int) ≤ q.wai := by
  have hm : m ∈ q.ss s := by rw [he]; exact List.mem_cons_self ..
  have h1 := h.ne s hs m hm
  have h2 := tot_ge _ m hm
  have h3 := wsum_ge q.n q.ss s hs
  have h4 := h.sum
  exact ⟨h1.1, h1.2, by omega⟩
theorem pushQ_ss (q : QS) (s : Nat) (proto : Int) (un : Bool) (xs : List Int) : (pushQ q s proto un xs).ss = upd q.ss s (q.ss s ++ [⟨0, proto, un, xs, false⟩]) := rfl
theorem Inv.push (h : Inv q) (s : Nat) (proto : Int) (un : Bool) (xs : List Int) (hs : s < q.n) (h0 : 0 < xs.length) (h1 : xs.length ≤ 65536) (h2 : (xs.length : Int) ≤ q.lim - q.wai - q.tak) : Inv (pushQ q s proto un xs) where
  ok := by
    obtain ⟨a, b, c, d, e, f, g, i, j, k, l⟩ := h.ok
    exact ⟨a, b, c, d, by simp only [pushQ]; omega, f, by simp only [pushQ]; omega, i, j, k, l⟩
  sum := by
    have e := wsum_upd q.n q.ss s (q.ss s ++ [⟨0, proto, un, xs, false⟩]) hs
    rw [tot_snoc] at e
    simp only at e
    have := h.sum
    show q.wai + xs.length = ((wsum q.n (upd q.ss s (q.ss s ++ [⟨0, proto, un, xs, false⟩])) : Nat) : Int)
    omega
  ne := fun t ht m hm => by
    rw [pushQ_ss] at hm
    by_cases e : t = s
    · subst e
      rw [upd_same] at hm
      rcases List.mem_append.1 hm with hm | hm
      · exact h.ne t hs m hm
      · simp at hm
        subst hm
        exact ⟨h0, h1⟩
    · rw [upd_ne _ _ _ _ e] at hm
      exact h.ne t ht m hm
  op := fun ho => by
    obtain ⟨m, ms, h3, h4⟩ := h.op ho
    rw [pushQ_ss]
    by_cases e : q.opn.toNat = s
    · refine ⟨m, ms ++ [⟨0, proto, un, xs, false⟩], ?_, h4⟩
      show upd q.ss s _ q.opn.toNat = _
      rw [e, upd_same, ← e, h3]
      rfl
    · exact ⟨m, ms, by show upd q.ss s _ q.opn.toNat = _; rw [upd_ne _ _ _ _ e]; exact h3, h4⟩
  nb := fun t ht k m hm hb => by
    rw [pushQ_ss] at hm
    by_cases e : t = s
    · subst e
      rw [upd_same] at hm
      by_cases hk : k < (q.ss t).length
      · rw [List.getElem?_append_left hk] at hm
        exact h.nb t hs k m hm hb
      · have h3 := (List.getElem?_eq_some_iff.1 hm).1
        obtain rfl : k = (q.ss t).length := by simp at h3; omega
        simp at hm
        subst hm
        cases hb
    · rw [upd_ne _ _ _ _ e] at hm
      exact h.nb t ht k m hm hb
theorem Inv.free (h : Inv q) (x : Int) (h0 : 0 ≤ x) (h1 : x ≤ q.tak) : Inv { q with tak := q.tak - x } where
  ok := by
    obtain ⟨a, b, c, d, e, f, g, i, j, k, l⟩ := h.ok
    exact ⟨a, b, c, d, e, by simp only; omega, by simp only; omega, i, j, k, l⟩
  sum := h.sum
  ne := h.ne
  op := h.op
  nb := h.nb
/-! ### the next stream -/
theorem rnd_all (q : QS) (k : Ok q) (s : Nat) (hs : s < q.n) : ∃ i, i < q.n ∧ rndN q i = s := by
  have hn := k.n0
  have e1 := Int.emod_nonneg (a := (s : Int) - q.last - 1) (b := (q.n : Int)) (by omega)
  have e2 := Int.emod_lt_of_pos ((s : Int) - q.last - 1) (b := (q.n : Int)) (by omega)
  refine ⟨(((s : Int) - q.last - 1) % q.n).toNat, by omega, ?_⟩
  unfold rndN
  rw [Int.toNat_of_nonneg e1, Int.add_emod_emod]
  rw [show q.last + 1 + ((s : Int) - q.last - 1) = (s : Int) from by omega, Int.emod_eq_of_lt (by omega) (by omega)]
  simp
theorem find_upto {p : Nat → Bool} {f : Nat → Nat} {n s : Nat} (h : (upto f n).find? p = some s) : ∃ i, i < n ∧ f i = s ∧ p s = true ∧ ∀ j, j < i → p (f j) = false := by
  induction n with
  | zero => simp [upto] at h
  | succ n ih =>
    rw [upto_succ, List.find?_append] at h
    cases hx : (upto f n).find? p with
    | some t =>
      rw [hx] at h
      simp at h
      subst h
      obtain ⟨i, h1, h2⟩ := ih hx
      exact ⟨i, by omega, h2⟩
    | none =>
      rw [hx] at h
      simp [List.find?_cons] at h
      refine ⟨n, by omega, ?_⟩
      split at h
      · rename_i hp
        simp at h
        subst h
        refine ⟨rfl, hp, fun j hj => ?_⟩
        rw [List.find?_eq_none] at hx
        have := hx (f j) (by simp [upto]; exact ⟨j, hj, rfl⟩)
        simpa using this
      · cases h
/-- nothing waits; or stream s, whose first message is m, is the next one -/
theorem next_cases (h : Inv q) : (nextF q = -1 ∧ q.opn < 0 ∧ ∀ s, s < q.n → q.ss s = []) ∨
    ∃ s m ms, nextF q = ((s : Nat) : Int) ∧ s < q.n ∧ q.ss s = m :: ms ∧ ((q.opn = s ∧ m.begun = true) ∨ (q.opn < 0 ∧ m.begun = false ∧ ∃ i, i < q.n ∧ rndN q i = s ∧ ∀ j, j < i → q.ss (rndN q j) = [])) := by
  by_cases ho : 0 ≤ q.opn
  · obtain ⟨m, ms, h1, h2⟩ := h.op ho
    have := h.ok.o1
    exact .inr ⟨q.opn.toNat, m, ms, by unfold nextF; rw [if_pos ho]; omega, by omega, h1, .inl ⟨by omega, h2⟩⟩
  · unfold nextF
    rw [if_neg ho]
    cases hf : (upto (rndN q) q.n).find? fun s => decide (0 < (q.ss s).length) with
    | none =>
      refine .inl ⟨rfl, by omega, fun s hs => ?_⟩
      obtain ⟨i, hi, e⟩ := rnd_all q h.ok s hs
      rw [List.find?_eq_none] at hf
      have := hf s (by simp [upto]; exact ⟨i, hi, e⟩)
      simp at this
      exact this
    | some s =>
      obtain ⟨i, hi, e, hp, hj⟩ := find_upto hf
      have hs : s < q.n := by
        have := rnd_lt q h.ok i
        rw [← e]
        unfold rndN
        unfold rnd at this
        omega
      cases hx : q.ss s with
      | nil => rw [hx] at hp; simp at hp
      | cons m ms =>
        refine .inr ⟨s, m, ms, rfl, hs, hx, .inr ⟨by omega, ?_, i, hi, e, fun j hji => by have := hj j hji; simp at this; exact this⟩⟩
        cases hb : m.begun with
        | false => rfl
        | true =>
          have := (h.nb s hs 0 m (by rw [hx]; rfl) hb).2
          omega
/-- the queue behind a take -/
theorem Inv.take (h : Inv q) (s : Nat) (m : Msg) (ms : List Msg) (x : Nat) (hs : s < q.n) (he : q.ss s = m :: ms) (hc : (q.opn = s ∧ m.begun = true) ∨ (q.opn < 0 ∧ m.begun = false)) (h0 : 1 ≤ x) : Inv (takeQ q s m ms x) := by
  obtain ⟨hm0, hm1, hm2⟩ := h.head s hs m ms he
  have hb := begQ_f q s m ms
  have hl : (begQ q s m ms).last = q.last ∨ (begQ q s m ms).last = s := by
    unfold begQ
    split
    · exact .inl rfl
    · exact .inr rfl
  have hop : (begQ q s m ms).opn = s := by
    unfold begQ
    rcases hc with ⟨h1, h2⟩ | ⟨h1, h2⟩
    · rw [if_pos h2]; exact h1
    · rw [if_neg (by rw [h2]; simp)]
  have hother : ∀ t, t < q.n → t ≠ s → ∀ (k : Nat) (m' : Msg), (q.ss t)[k]? = some m' → m'.begun = true → False := fun t ht hts k m' hm' hb' => by
    have := (h.nb t ht k m' hm' hb').2
    omega
  have htail : ∀ (k : Nat) (m' : Msg), ms[k]? = some m' → m'.begun = true → False := fun k m' hm' hb' => by
    have := (h.nb s hs (k + 1) m' (by rw [he]; simpa using hm') hb').1
    omega
  have hk := h.ok
  have hsum := h.sum
  have := hk.n0
  have := hk.n1
  have := hk.m0
  have := hk.m1
  have := hk.w0
  have := hk.t0
  have := hk.wt
  have := hk.l0
  have := hk.l1
  have htot : tot (q.ss s) = m.data.length + tot ms := by rw [he, tot_cons]
  unfold takeQ
  by_cases hx : m.data.length ≤ x
  · rw [if_pos hx]
    have e := wsum_upd q.n q.ss s ms hs
    refine ⟨⟨?_, ?_, ?_, ?_, ?_, ?_, ?_, ?_, ?_, ?_, ?_⟩, ?_, ?_, ?_, ?_⟩
    · show 1 ≤ (begQ q s m ms).n; rw [hb.1]; omega
    · show (begQ q s m ms).n ≤ 1024; rw [hb.1]; omega
    · show 1 ≤ (begQ q s m ms).lim; rw [hb.2.2.2]; omega
    · show (begQ q s m ms).lim ≤ 1073741824; rw [hb.2.2.2]; omega
    · show 0 ≤ q.wai - m.data.length; omega
    · show 0 ≤ q.tak + m.data.length; omega
    · show q.wai - m.data.length + (q.tak + m.data.length) ≤ (begQ q s m ms).lim; rw [hb.2.2.2]; omega
    · show -1 ≤ (begQ q s m ms).last; omega
    · show (begQ q s m ms).last < ((begQ q s m ms).n : Int); rw [hb.1]; omega
    · show (-1 : Int) ≤ -1; omega
    · show (-1 : Int) < ((begQ q s m ms).n : Int); omega
    · show q.wai - m.data.length = ((wsum (begQ q s m ms).n (upd q.ss s ms) : Nat) : Int)
      rw [hb.1]
      omega
    · intro t ht m' hm'
      have ht' : t < q.n := by rw [← hb.1]; exact ht
      replace hm' : m' ∈ upd q.ss s ms t := hm'
      by_cases e : t = s
      · subst e
        rw [upd_same] at hm'
        exact h.ne t hs m' (by rw [he]; exact List.mem_cons_of_mem _ hm')
      · rw [upd_ne _ _ _ _ e] at hm'
        exact h.ne t ht' m' hm'
    · intro ho
      have : (0 : Int) ≤ -1 := ho
      omega
    · intro t ht k m' hm' hb'
      have ht' : t < q.n := by rw [← hb.1]; exact ht
      replace hm' : (upd q.ss s ms t)[k]? = some m' := hm'
      by_cases e : t = s
      · subst e
        rw [upd_same] at hm'
        exact (htail k m' hm' hb').elim
      · rw [upd_ne _ _ _ _ e] at hm'
        exact (hother t ht' e k m' hm' hb').elim
  · rw [if_neg hx]
    obtain ⟨M, hM⟩ : ∃ M : Msg, M = { begM q s m with data := m.data.drop x } := ⟨_, rfl⟩
    have hMd : M.data.length = m.data.length - x := by rw [hM]; simp
    have hMb : M.begun = true := by rw [hM]; exact (begM_f q s m).2.1
    rw [← hM]
    have e := wsum_upd q.n q.ss s (M :: ms) hs
    rw [tot_cons] at e
    refine ⟨⟨?_, ?_, ?_, ?_, ?_, ?_, ?_, ?_, ?_, ?_, ?_⟩, ?_, ?_, ?_, ?_⟩
    · show 1 ≤ (begQ q s m ms).n; rw [hb.1]; omega
    · show (begQ q s m ms).n ≤ 1024; rw [hb.1]; omega
    · show 1 ≤ (begQ q s m ms).lim; rw [hb.2.2.2]; omega
    · show (begQ q s m ms).lim ≤ 1073741824; rw [hb.2.2.2]; omega
    · show 0 ≤ q.wai - x; omega
    · show 0 ≤ q.tak + x; omega
    · show q.wai - x + (q.tak + x) ≤ (begQ q s m ms).lim; rw [hb.2.2.2]; omega
    · show -1 ≤ (begQ q s m ms).last; omega
    · show (begQ q s m ms).last < ((begQ q s m ms).n : Int); rw [hb.1]; omega
    · show (-1 : Int) ≤ (begQ q s m ms).opn; rw [hop]; omega
    · show (begQ q s m ms).opn < ((begQ q s m ms).n : Int); rw [hop, hb.1]; omega
    · show q.wai - x = ((wsum (begQ q s m ms).n (upd q.ss s (M :: ms)) : Nat) : Int)
      rw [hb.1]
      omega
    · intro t ht m' hm'
      have ht' : t < q.n := by rw [← hb.1]; exact ht
      replace hm' : m' ∈ upd q.ss s (M :: ms) t := hm'
      by_cases e : t = s
      · subst e
        rw [upd_same] at hm'
        rcases List.mem_cons.1 hm' with rfl | hm'
        · omega
        · exact h.ne t hs m' (by rw [he]; exact List.mem_cons_of_mem _ hm')
      · rw [upd_ne _ _ _ _ e] at hm'
        exact h.ne t ht' m' hm'
    · intro _
      refine ⟨M, ms, ?_, hMb⟩
      show upd q.ss s (M :: ms) (begQ q s m ms).opn.toNat = _
      rw [hop]
      exact upd_same _ _ _
    · intro t ht k m' hm' hb'
      have ht' : t < q.n := by rw [← hb.1]; exact ht
      replace hm' : (upd q.ss s (M :: ms) t)[k]? = some m' := hm'
      by_cases e : t = s
      · subst e
        rw [upd_same] at hm'
        cases k with
        | zero => exact ⟨rfl, hop⟩
        | succ k => exact (htail k m' (by simpa using hm') hb').elim
      · rw [upd_ne _ _ _ _ e] at hm'
        exact (hother t ht' e k m' hm' hb').elim
