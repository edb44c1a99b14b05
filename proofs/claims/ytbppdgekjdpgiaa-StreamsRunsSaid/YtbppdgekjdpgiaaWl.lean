/- Layer 16: the plain law of StreamsWhole: the queue against the list of what was sent. -/
import Derived.Test.YtbppdgekjdpgiaaRo
namespace Go.Proofs.Ytbppdgekjdpgiaa.C
open Go.RowKit OpenStruct
set_option linter.unusedVariables false
set_option linter.unusedSimpArgs false

abbrev Key := Int × Bool × List Int
def key (z : E34) : Key := (z.f2, z.f3, z.f4.2.2.2)
def mky (m : Msg) : Key := (m.proto, m.un, m.data)
/-- what stream t holds, with the bytes that are open -/
def vw (q : QS) (O : List Int) (t : Nat) : List Key := match q.ss t with
  | [] => []
  | m :: ms => (m.proto, m.un, (if q.opn = (t : Int) then O else []) ++ m.data) :: ms.map mky
def flt (S : List E34) (t : Nat) : List E34 := S.filter fun z => z.f0 == (t : Int)
structure Rel (q : QS) (S : List E34) (O : List Int) : Prop where
  i : Inv q
  n : q.n = 8
  v : ∀ t, t < 8 → vw q O t = (flt S t).map key
  s : ∀ z ∈ S, 0 ≤ z.f0 ∧ z.f0 < 8
  o0 : q.opn < 0 → O = []
  o1 : 0 ≤ q.opn → O ≠ []
theorem Rel.new : Rel (newQ 8 1073741824) [] [] where
  i := Inv.new 8 1073741824 (by decide) (by decide) (by decide) (by decide)
  n := rfl
  v := fun t ht => rfl
  s := fun z hz => by cases hz
  o0 := fun _ => rfl
  o1 := fun h => by simp [newQ] at h
theorem flt_snoc (S : List E34) (z : E34) (t : Nat) : flt (S ++ [z]) t = flt S t ++ if z.f0 = (t : Int) then [z] else [] := by
  unfold flt
  rw [List.filter_append]
  congr 1
  by_cases h : z.f0 = (t : Int)
  · simp [h]
  · simp [h]
theorem vw_nil {q : QS} {O : List Int} {t : Nat} (h : q.ss t = []) : vw q O t = [] := by unfold vw; rw [h]
theorem vw_cons {q : QS} {O : List Int} {t : Nat} {m : Msg} {ms : List Msg} (h : q.ss t = m :: ms) : vw q O t = (m.proto, m.un, (if q.opn = (t : Int) then O else []) ++ m.data) :: ms.map mky := by unfold vw; rw [h]
theorem Rel.push {q : QS} {S : List E34} {O : List Int} (h : Rel q S O) (s : Nat) (z : E34) (he : pushE q s z.f4.2.2.2.length = 0) (hz : z.f0 = s) : Rel (pushQ q s z.f2 z.f3 z.f4.2.2.2) (S ++ [z]) O where
  i := by
    obtain ⟨h1, h2, h3, h4⟩ := pushE_0 he
    exact h.i.push s z.f2 z.f3 z.f4.2.2.2 h1 h2 h3 h4
  n := h.n
  v := fun t ht => by
    rw [flt_snoc, List.map_append, ← h.v t ht]
    by_cases e : t = s
    · subst e
      rw [if_pos hz]
      cases hx : q.ss t with
      | nil =>
        have hno : q.opn ≠ (t : Int) := fun e => by
          obtain ⟨m, ms, h1, _⟩ := h.i.op (by omega)
          rw [e, Int.toNat_natCast, hx] at h1
          cases h1
        rw [vw_nil hx, vw_cons (m := ⟨0, z.f2, z.f3, z.f4.2.2.2, false⟩) (ms := []) (by rw [pushQ_ss, upd_same, hx]; rfl)]
        rw [if_neg (show (pushQ q t z.f2 z.f3 z.f4.2.2.2).opn ≠ (t : Int) from hno)]
        rfl
      | cons m ms =>
        rw [vw_cons hx, vw_cons (m := m) (ms := ms ++ [⟨0, z.f2, z.f3, z.f4.2.2.2, false⟩]) (by rw [pushQ_ss, upd_same, hx]; rfl)]
        simp only [List.map_append, List.map_cons, List.map_nil, List.cons_append]
        rfl
    · rw [if_neg (by omega), List.map_nil, List.append_nil]
      unfold vw
      rw [pushQ_ss, upd_ne _ _ _ _ e]
      rfl
  s := fun y hy => by
    rcases List.mem_append.1 hy with hy | hy
    · exact h.s y hy
    · simp at hy
      subst hy
      have := (pushE_0 he).1
      have := h.n
      omega
  o0 := h.o0
  o1 := h.o1
theorem Rel.none {q : QS} {S : List E34} {O : List Int} (h : Rel q S O) (hn : nextF q < 0) : S = [] ∧ O = [] ∧ q.wai = 0 := by
  rcases next_cases h.i with ⟨h1, h2, h3⟩ | ⟨s, m, ms, h1, _⟩
  · refine ⟨?_, h.o0 h2, by rw [h.i.sum, wsum_zero _ _ h3]; rfl⟩
    cases S with
    | nil => rfl
    | cons z S =>
      obtain ⟨a, b⟩ := h.s z (List.mem_cons_self ..)
      have h4 := h.v z.f0.toNat (by omega)
      rw [vw_nil (h3 _ (by rw [h.n]; omega))] at h4
      have : (flt (z :: S) z.f0.toNat) = z :: flt S z.f0.toNat := by
        unfold flt
        rw [List.filter_cons_of_pos (by simp; omega)]
      rw [this] at h4
      cases h4
  · omega
theorem takeQ_ss_ne (q : QS) (s : Nat) (m : Msg) (ms : List Msg) (x t : Nat) (h : t ≠ s) : (takeQ q s m ms x).ss t = q.ss t := by
  unfold takeQ
  split
  · exact upd_ne _ _ _ _ h
  · exact upd_ne _ _ _ _ h
theorem takeQ_end (q : QS) (s : Nat) (m : Msg) (ms : List Msg) (x : Nat) (h : m.data.length ≤ x) : (takeQ q s m ms x).ss s = ms ∧ (takeQ q s m ms x).opn = -1 := by
  unfold takeQ
  rw [if_pos h]
  exact ⟨upd_same _ _ _, rfl⟩
theorem begQ_opn (q : QS) (s : Nat) (m : Msg) (ms : List Msg) (hc : (q.opn = s ∧ m.begun = true) ∨ (q.opn < 0 ∧ m.begun = false)) : (begQ q s m ms).opn = s := by
  unfold begQ
  rcases hc with ⟨h1, h2⟩ | ⟨h1, h2⟩
  · rw [if_pos h2]; exact h1
  · rw [if_neg (by rw [h2]; simp)]
theorem takeQ_mid (q : QS) (s : Nat) (m : Msg) (ms : List Msg) (x : Nat) (h : x < m.data.length) (hc : (q.opn = s ∧ m.begun = true) ∨ (q.opn < 0 ∧ m.begun = false)) : (takeQ q s m ms x).ss s = { begM q s m with data := m.data.drop x } :: ms ∧ (takeQ q s m ms x).opn = s := by
  unfold takeQ
  rw [if_neg (by omega)]
  exact ⟨upd_same _ _ _, begQ_opn q s m ms hc⟩
theorem vw_other {q q' : QS} {O O' : List Int} {t : Nat} (h : q'.ss t = q.ss t) (h1 : q.opn ≠ (t : Int)) (h2 : q'.opn ≠ (t : Int)) : vw q' O' t = vw q O t := by
  unfold vw
  rw [h, if_neg h1, if_neg h2]
section
variable {q : QS} {S : List E34} {O : List Int} {s : Nat} {m : Msg} {ms : List Msg}
theorem Rel.begun (h : Rel q S O) (hc : (q.opn = s ∧ m.begun = true) ∨ (q.opn < 0 ∧ m.begun = false)) : (!m.begun) = decide (O.length = 0) := by
  rcases hc with ⟨h1, h2⟩ | ⟨h1, h2⟩
  · have := h.o1 (by omega)
    rw [h2, decide_eq_false (by intro e; exact this (List.eq_nil_of_length_eq_zero e))]
    rfl
  · have := h.o0 h1
    rw [h2, this]
    rfl
theorem Rel.head (h : Rel q S O) (hs : s < q.n) (he : q.ss s = m :: ms) (hc : (q.opn = s ∧ m.begun = true) ∨ (q.opn < 0 ∧ m.begun = false)) : (flt S s).map key = (m.proto, m.un, O ++ m.data) :: ms.map mky := by
  rw [← h.v s (by rw [← h.n]; exact hs), vw_cons he]
  rcases hc with ⟨h1, h2⟩ | ⟨h1, h2⟩
  · rw [if_pos h1]
  · rw [h.o0 h1]
    simp
/-- a piece that does not end its message -/
theorem Rel.mid (h : Rel q S O) (hs : s < q.n) (he : q.ss s = m :: ms) (hc : (q.opn = s ∧ m.begun = true) ∨ (q.opn < 0 ∧ m.begun = false)) (x : Nat) (h0 : 1 ≤ x) (hx : x < m.data.length) : Rel (takeQ q s m ms x) S (O ++ m.data.take x) := by
  obtain ⟨e1, e2⟩ := takeQ_mid q s m ms x hx hc
  have hb := begM_f q s m
  refine ⟨h.i.take s m ms x hs he hc h0, (takeQ_f q s m ms x).1.trans h.n, fun t ht => ?_, h.s, fun ho => by omega, fun _ e => ?_⟩
  · by_cases e : t = s
    · subst e
      rw [vw_cons e1, if_pos e2, h.head hs he hc]
      simp only [hb.2.2.1, hb.2.2.2, List.append_assoc, List.take_append_drop]
    · rw [vw_other (takeQ_ss_ne q s m ms x t e) (by rcases hc with hc | hc <;> omega) (by omega)]
      exact h.v t ht
  · rcases List.take_eq_nil_iff.1 (List.append_eq_nil_iff.1 e).2 with h9 | h9
    · omega
    · rw [h9] at hx
      simp at hx
end
/-- the first place of stream s behind j -/
def atJ (S : List E34) (s : Int) (j : Nat) : Int := match (S.drop j).findIdx? fun z => z.f0 == s with
  | none => -1
  | some d => (j : Int) + (d : Int)
theorem atJ_end (S : List E34) (s : Int) : atJ S s S.length = -1 := by unfold atJ; simp
theorem atJ_step (S : List E34) (s : Int) (j : Nat) (z : E34) (hz : S[j]? = some z) : atJ S s j = if z.f0 = s then (j : Int) else atJ S s (j + 1) := by
  obtain ⟨hj, e⟩ := List.getElem?_eq_some_iff.1 hz
  unfold atJ
  rw [List.drop_eq_getElem_cons hj, e, List.findIdx?_cons]
  by_cases h : z.f0 = s
  · simp [h]
  · simp only [beq_iff_eq, h, if_false]
    cases (List.drop (j + 1) S).findIdx? fun z => z.f0 == s with
    | none => rfl
    | some d => simp; omega
section
variable {q : QS} {S : List E34} {O : List Int} {s : Nat} {m : Msg} {ms : List Msg}
/-- the piece that ends its message -/
theorem Rel.fin (h : Rel q S O) (hs : s < q.n) (he : q.ss s = m :: ms) (hc : (q.opn = s ∧ m.begun = true) ∨ (q.opn < 0 ∧ m.begun = false)) (x : Nat) (h0 : 1 ≤ x) (hx : m.data.length ≤ x) :
    ∃ (a : Nat) (z : E34), atJ S s 0 = (a : Int) ∧ a < S.length ∧ S[a]? = some z ∧ z.f2 = m.proto ∧ z.f3 = m.un ∧ z.f4.2.2.2 = O ++ m.data ∧ Rel (takeQ q s m ms x) (S.take a ++ S.drop (a + 1)) [] := by
  have hh := h.head hs he hc
  obtain ⟨e1, e2⟩ := takeQ_end q s m ms x hx
  cases hf : S.findIdx? fun z => z.f0 == (s : Int) with
  | none =>
    have hnil : flt S s = [] := by
      unfold flt
      rw [List.filter_eq_nil_iff]
      rw [List.findIdx?_eq_none_iff] at hf
      intro z hz
      have := hf z hz
      simpa using this
    rw [hnil] at hh
    cases hh
  | some a =>
    rw [List.findIdx?_eq_some_iff_getElem] at hf
    obtain ⟨hal, hpa, hbef⟩ := hf
    obtain ⟨z, hz⟩ : ∃ z, z = S[a] := ⟨_, rfl⟩
    rw [← hz] at hpa
    have hza : S[a]? = some z := by rw [hz]; exact List.getElem?_eq_getElem hal
    have hzs : z.f0 = (s : Int) := by simpa using hpa
    have hS : S = S.take a ++ z :: S.drop (a + 1) := by rw [hz, ← List.drop_eq_getElem_cons hal, List.take_append_drop]
    have hpre : (S.take a).filter (fun z => z.f0 == (s : Int)) = [] := by
      rw [List.filter_eq_nil_iff]
      intro y hy
      obtain ⟨i, hi, e⟩ := List.mem_take_iff_getElem.1 hy
      have := hbef i (by omega)
      rw [e] at this
      simpa using this
    have hfl : ∀ t : Nat, flt S t = (S.take a).filter (fun z => z.f0 == (t : Int)) ++ (if z.f0 = (t : Int) then [z] else []) ++ (S.drop (a + 1)).filter (fun z => z.f0 == (t : Int)) := fun t => by
      unfold flt
      conv => lhs; rw [hS]
      rw [List.filter_append, List.filter_cons]
      by_cases hzt : z.f0 = (t : Int)
      · simp [hzt]
      · simp [hzt]
    have hfl2 : ∀ t : Nat, flt (S.take a ++ S.drop (a + 1)) t = (S.take a).filter (fun z => z.f0 == (t : Int)) ++ (S.drop (a + 1)).filter (fun z => z.f0 == (t : Int)) := fun t => by
      unfold flt
      rw [List.filter_append]
    have hs1 := hfl s
    rw [hpre, if_pos hzs] at hs1
    rw [hs1] at hh
    simp only [List.nil_append, List.cons_append, List.map_cons, List.cons.injEq, key, Prod.mk.injEq] at hh
    obtain ⟨⟨k1, k2, k3⟩, k4⟩ := hh
    have hat : atJ S s 0 = (a : Int) := by
      have hfi : S.findIdx? (fun z => z.f0 == (s : Int)) = some a := List.findIdx?_eq_some_iff_getElem.2 ⟨hal, by rw [← hz]; exact hpa, hbef⟩
      unfold atJ
      rw [List.drop_zero, hfi]
      simp
    refine ⟨a, z, hat, hal, hza, k1, k2, k3, h.i.take s m ms x hs he hc h0, (takeQ_f q s m ms x).1.trans h.n, fun t ht => ?_, fun y hy => h.s y ?_, fun _ => rfl, fun ho => by omega⟩
    · rw [hfl2]
      by_cases e : t = s
      · subst e
        rw [hpre, List.nil_append]
        have : vw (takeQ q t m ms x) [] t = ms.map mky := by
          unfold vw
          rw [e1]
          cases ms with
          | nil => rfl
          | cons b l => simp [mky]
        rw [this, ← k4]
      · have h5 := h.v t ht
        rw [hfl t, if_neg (by omega), List.append_nil] at h5
        rw [vw_other (takeQ_ss_ne q s m ms x t e) (by rcases hc with hc | hc <;> omega) (by omega)]
        exact h5
    · rw [hS]
      rcases List.mem_append.1 hy with hy | hy
      · exact List.mem_append.2 (.inl hy)
      · exact List.mem_append.2 (.inr (List.mem_cons_of_mem _ hy))
end
