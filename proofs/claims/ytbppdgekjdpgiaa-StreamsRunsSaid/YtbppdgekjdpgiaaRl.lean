/- Layer 16: the plain law of StreamsRuns: the queue against the reference's list. -/
import Derived.Test.YtbppdgekjdpgiaaWh
import Derived.Test.YtbppdgekjdpgiaaFl
namespace Go.Proofs.Ytbppdgekjdpgiaa.C
open Go.RowKit
set_option linter.unusedVariables false
set_option linter.unusedSimpArgs false

/-- an entry of the reference's list -/
structure Ent where
  st : Nat
  ssn : Int
  proto : Int
  un : Bool
  A : Option Addr
  c : Nat
  data : List Int
  at_ : Nat
/-- the reference -/
structure RS where
  n : Nat
  lim : Int
  L : List Ent
  ssn : Nat → Int
  last : Int
  out : Int
def toM (e : Ent) : Msg := ⟨e.ssn, e.proto, e.un, e.data.drop e.at_, decide (0 < e.at_)⟩
def fl (L : List Ent) (s : Nat) : List Ent := L.filter fun e => e.st == s
def rest (e : Ent) : Nat := e.data.length - e.at_
def rtot (L : List Ent) : Nat := (L.map rest).sum
structure RR (q : QS) (r : RS) : Prop where
  i : Inv q
  n : r.n = q.n
  lim : r.lim = q.lim
  last : r.last = q.last
  out : r.out = q.tak
  ss : ∀ s, s < q.n → q.ss s = (fl r.L s).map toM
  st : ∀ e ∈ r.L, e.st < q.n ∧ e.at_ < e.data.length
  nums : ∀ s, s < q.n → r.ssn s = q.nums s
def newR (n : Nat) (lim : Int) : RS := ⟨n, lim, [], fun _ => 0, -1, 0⟩
theorem RR.new (n : Nat) (lim : Int) (n0 : 1 ≤ n) (n1 : n ≤ 1024) (l0 : 1 ≤ lim) (l1 : lim ≤ 1073741824) : RR (newQ n lim) (newR n lim) :=
  ⟨Inv.new n lim n0 n1 l0 l1, rfl, rfl, rfl, rfl, fun _ _ => rfl, (fun e he => by cases he), fun _ _ => rfl⟩
theorem fl_app (a b : List Ent) (s : Nat) : fl (a ++ b) s = fl a s ++ fl b s := by unfold fl; rw [List.filter_append]
theorem fl_cons (e : Ent) (b : List Ent) (s : Nat) : fl (e :: b) s = if e.st = s then e :: fl b s else fl b s := by
  unfold fl
  rw [List.filter_cons]
  by_cases h : e.st = s
  · simp [h]
  · simp [h]
theorem fl_none (a : List Ent) (s : Nat) (h : ∀ e ∈ a, e.st ≠ s) : fl a s = [] := by
  unfold fl
  rw [List.filter_eq_nil_iff]
  intro e he
  simpa using h e he
theorem tot_map (L : List Ent) : tot (L.map toM) = rtot L := by
  unfold tot rtot
  rw [List.map_map]
  congr 1
  apply List.map_congr_left
  intro e _
  simp [toM, rest]
/-- the bytes of a list, by streams -/
theorem wsum_fl (n : Nat) (L : List Ent) (h : ∀ e ∈ L, e.st < n) : wsum n (fun s => (fl L s).map toM) = rtot L := by
  induction L with
  | nil => exact wsum_zero n _ fun s _ => rfl
  | cons e L ih =>
    have ih := ih fun y hy => h y (List.mem_cons_of_mem _ hy)
    have he := h e (List.mem_cons_self ..)
    have e1 : (fun s => (fl (e :: L) s).map toM) = upd (fun s => (fl L s).map toM) e.st (toM e :: (fl L e.st).map toM) := by
      funext s
      rw [fl_cons]
      by_cases hs : s = e.st
      · subst hs; rw [if_pos rfl, upd_same]; rfl
      · rw [if_neg (fun h => hs h.symm), upd_ne _ _ _ _ hs]
    have h2 := wsum_upd n (fun s => (fl L s).map toM) e.st (toM e :: (fl L e.st).map toM) he
    rw [← e1, ih, tot_cons] at h2
    have h3 : rtot (e :: L) = rest e + rtot L := by simp [rtot]
    have h4 : (toM e).data.length = rest e := by simp [toM, rest]
    omega
section
variable {q : QS} {r : RS}
theorem RR.wai (h : RR q r) : q.wai = rtot r.L := by
  rw [h.i.sum, wsum_congr q.n q.ss _ h.ss, wsum_fl q.n r.L fun e he => (h.st e he).1]
theorem rtot_len (L : List Ent) (h : ∀ e ∈ L, e.at_ < e.data.length) : L.length ≤ rtot L := by
  induction L with
  | nil => simp
  | cons e L ih =>
    have h1 := ih fun y hy => h y (List.mem_cons_of_mem _ hy)
    have h2 := h e (List.mem_cons_self ..)
    have h3 : rtot (e :: L) = rest e + rtot L := by simp [rtot]
    have h4 : rest e = e.data.length - e.at_ := rfl
    rw [List.length_cons]
    omega
theorem RR.bounds (h : RR q r) : r.L.length ≤ 1073741824 ∧ (rtot r.L : Int) + r.out ≤ r.lim ∧ 0 ≤ r.out ∧ r.lim ≤ 1073741824 ∧ -1 ≤ r.last ∧ r.last < r.n ∧ 1 ≤ r.n ∧ r.n ≤ 1024 := by
  have h1 := rtot_len r.L fun e he => (h.st e he).2
  have h2 := h.wai
  have h3 := h.i.ok
  have := h3.wt
  have := h3.t0
  have := h3.m1
  have := h3.l0
  have := h3.l1
  have := h3.n0
  have := h3.n1
  have := h.out
  have := h.lim
  have := h.last
  have := h.n
  refine ⟨?_, ?_, ?_, ?_, ?_, ?_, ?_, ?_⟩ <;> omega
theorem RR.count (h : RR q r) (s : Nat) : (fl r.L s).length = if s < q.n then (q.ss s).length else 0 := by
  by_cases hs : s < q.n
  · rw [if_pos hs, h.ss s hs, List.length_map]
  · rw [if_neg hs, fl_none r.L s fun e he => by have := (h.st e he).1; omega]
    rfl
end
/-- the place of a stream's first entry -/
def rfirst (L : List Ent) (s : Nat) : Int := match L.findIdx? fun e => e.st == s with
  | none => -1
  | some i => (i : Int)
/-- the place of the first entry of which bytes are taken -/
def ropen (L : List Ent) : Int := match L.findIdx? fun e => decide (0 < e.at_) with
  | none => -1
  | some i => (i : Int)
def rndR (r : RS) (k : Nat) : Nat := ((r.last + ((k : Int) + 1)) % r.n).toNat
def rnext (r : RS) : Int := if 0 ≤ ropen r.L then ropen r.L else match (upto (rndR r) r.n).find? fun s => decide (0 ≤ rfirst r.L s) with
  | none => -1
  | some s => rfirst r.L s
theorem rfirst_some {L : List Ent} {s : Nat} (h : 0 ≤ rfirst L s) : ∃ pre e post, L = pre ++ e :: post ∧ rfirst L s = (pre.length : Int) ∧ e.st = s ∧ ∀ y ∈ pre, y.st ≠ s := by
  unfold rfirst at h ⊢
  cases hf : L.findIdx? fun e => e.st == s with
  | none => rw [hf] at h; simp at h
  | some i =>
    rw [List.findIdx?_eq_some_iff_getElem] at hf
    obtain ⟨hi, h1, h2⟩ := hf
    refine ⟨L.take i, L[i], L.drop (i + 1), by rw [← List.drop_eq_getElem_cons hi, List.take_append_drop], by rw [List.length_take, Nat.min_eq_left (Nat.le_of_lt hi)], by simpa using h1, fun y hy => ?_⟩
    obtain ⟨j, hj, e⟩ := List.mem_take_iff_getElem.1 hy
    have := h2 j (by omega)
    rw [e] at this
    simpa using this
theorem rfirst_none {L : List Ent} {s : Nat} : rfirst L s < 0 ↔ fl L s = [] := by
  unfold rfirst fl
  rw [List.filter_eq_nil_iff]
  cases hf : L.findIdx? fun e => e.st == s with
  | none =>
    rw [List.findIdx?_eq_none_iff] at hf
    refine ⟨fun _ e he => ?_, fun _ => by decide⟩
    have := hf e he
    simpa using this
  | some i =>
    rw [List.findIdx?_eq_some_iff_getElem] at hf
    obtain ⟨hi, h1, h2⟩ := hf
    refine ⟨fun h => by simp at h; omega, fun h => absurd h1 (by simpa using h L[i] (List.getElem_mem hi))⟩
theorem fl_first {pre post : List Ent} {e : Ent} {s : Nat} (h1 : e.st = s) (h2 : ∀ y ∈ pre, y.st ≠ s) : fl (pre ++ e :: post) s = e :: fl post s := by
  rw [fl_app, fl_none pre s h2, fl_cons, if_pos h1]
  rfl
section
variable {q : QS} {r : RS}
theorem RR.begun (h : RR q r) (e : Ent) (he : e ∈ r.L) (ha : 0 < e.at_) : q.opn = e.st := by
  have hs := (h.st e he).1
  have hm : e ∈ fl r.L e.st := by unfold fl; rw [List.mem_filter]; exact ⟨he, by simp⟩
  have hm2 : toM e ∈ q.ss e.st := by rw [h.ss _ hs]; exact List.mem_map_of_mem hm
  obtain ⟨k, hk, hk2⟩ := List.getElem_of_mem hm2
  exact (h.i.nb e.st hs k (toM e) (by rw [List.getElem?_eq_getElem hk, hk2]) (by simp [toM, ha])).2
theorem rndR_N (h : RR q r) (k : Nat) : rndR r k = rndN q k := by
  unfold rndR rndN
  rw [h.last, h.n]
  congr 2
  omega
/-- the reference's next entry is the first one of the next stream -/
theorem RR.next (h : RR q r) : rnext r = if nextF q < 0 then -1 else rfirst r.L (nextF q).toNat := by
  rcases next_cases h.i with ⟨h1, h2, h3⟩ | ⟨s, m, ms, h1, h2, h3, h4⟩
  · have hno : ropen r.L = -1 := by
      unfold ropen
      cases hf : r.L.findIdx? fun e => decide (0 < e.at_) with
      | none => rfl
      | some i =>
        rw [List.findIdx?_eq_some_iff_getElem] at hf
        obtain ⟨hi, h5, _⟩ := hf
        have := h.begun r.L[i] (List.getElem_mem hi) (by simpa using h5)
        omega
    unfold rnext
    rw [hno, if_neg (by omega), if_pos (by omega)]
    have hf : (upto (rndR r) r.n).find? (fun s => decide (0 ≤ rfirst r.L s)) = none := by
      rw [List.find?_eq_none]
      intro s hs
      unfold upto at hs
      rw [List.mem_map] at hs
      obtain ⟨k, hk, e⟩ := hs
      have hsn : s < q.n := by
        have := rnd_lt q h.i.ok k
        rw [← e, rndR_N h]
        unfold rndN
        unfold rnd at this
        omega
      have : rfirst r.L s < 0 := rfirst_none.2 (by have := h.ss s hsn; rw [h3 s hsn] at this; exact (List.map_eq_nil_iff.1 this.symm))
      simp
      omega
    rw [hf]
  · have hne : ¬ nextF q < 0 := by omega
    rw [if_neg hne, h1, Int.toNat_natCast]
    have hfl : fl r.L s ≠ [] := fun e => by
      have := h.ss s h2
      rw [e, h3] at this
      cases this
    have hfi : 0 ≤ rfirst r.L s := by
      rcases Int.lt_or_le (rfirst r.L s) 0 with h5 | h5
      · exact absurd (rfirst_none.1 h5) hfl
      · exact h5
    obtain ⟨pre, e, post, hL, hi, hst, hpre⟩ := rfirst_some hfi
    have hss := h.ss s h2
    rw [hL, fl_first hst hpre, h3] at hss
    simp only [List.map_cons, List.cons.injEq] at hss
    rcases h4 with ⟨ho, hb⟩ | ⟨ho, hb, i, hil, hir, hij⟩
    · -- the open one
      have hat : 0 < e.at_ := by
        rw [hss.1] at hb
        simpa [toM] using hb
      have hop : ropen r.L = (pre.length : Int) := by
        unfold ropen
        have : r.L.findIdx? (fun e => decide (0 < e.at_)) = some pre.length := by
          rw [List.findIdx?_eq_some_iff_getElem]
          refine ⟨by rw [hL]; simp, by simp [hL, hat], fun j hj => ?_⟩
          have hjl : j < r.L.length := by rw [hL]; simp; omega
          have hmem : r.L[j] ∈ r.L := List.getElem_mem hjl
          have hjp : r.L[j] ∈ pre := by
            have : r.L[j] = pre[j] := by simp [hL, List.getElem_append_left hj]
            rw [this]
            exact List.getElem_mem hj
          intro hc
          have := h.begun r.L[j] hmem (by simpa using hc)
          exact hpre _ hjp (by omega)
        rw [this]
      unfold rnext
      rw [hop, if_pos (by omega), hi]
    · have hno : ropen r.L = -1 := by
        unfold ropen
        cases hf : r.L.findIdx? fun e => decide (0 < e.at_) with
        | none => rfl
        | some i =>
          rw [List.findIdx?_eq_some_iff_getElem] at hf
          obtain ⟨hi, h5, _⟩ := hf
          have := h.begun r.L[i] (List.getElem_mem hi) (by simpa using h5)
          omega
      unfold rnext
      rw [hno, if_neg (by omega)]
      have hf : (upto (rndR r) r.n).find? (fun s => decide (0 ≤ rfirst r.L s)) = some s := by
        have hp : upto (rndR r) r.n = (upto (rndR r) i ++ [s]) ++ ((List.range (r.n - (i + 1))).map fun j => rndR r (i + 1 + j)) := by
          rw [← hir, ← rndR_N h, ← upto_succ]
          unfold upto
          conv => lhs; rw [show r.n = (i + 1) + (r.n - (i + 1)) from by have := h.n; omega]
          rw [List.range_add, List.map_append, List.map_map]
          rfl
        rw [hp, List.find?_append, List.find?_append]
        have hn : (upto (rndR r) i).find? (fun s => decide (0 ≤ rfirst r.L s)) = none := by
          rw [List.find?_eq_none]
          intro t ht
          unfold upto at ht
          rw [List.mem_map] at ht
          obtain ⟨j, hj, e⟩ := ht
          rw [List.mem_range] at hj
          have htn : t < q.n := by
            have := rnd_lt q h.i.ok j
            rw [← e, rndR_N h]
            unfold rndN
            unfold rnd at this
            omega
          have hemp : q.ss t = [] := by rw [← e, rndR_N h]; exact hij j hj
          have : rfirst r.L t < 0 := rfirst_none.2 (by have := h.ss t htn; rw [hemp] at this; exact (List.map_eq_nil_iff.1 this.symm))
          simp
          omega
        rw [hn]
        simp [List.find?_cons, hfi]
      rw [hf]
end
/-! ### what the calls make of both -/
def rpush (r : RS) (e : Ent) : RS := { r with L := r.L ++ [e] }
theorem RR.push {q : QS} {r : RS} (h : RR q r) (s : Nat) (proto : Int) (un : Bool) (xs : List Int) (A : Option Addr) (c : Nat) (he : pushE q s xs.length = 0) : RR (pushQ q s proto un xs) (rpush r ⟨s, 0, proto, un, A, c, xs, 0⟩) := by
  obtain ⟨h1, h2, h3, h4⟩ := pushE_0 he
  refine ⟨h.i.push s proto un xs h1 h2 h3 h4, h.n, h.lim, h.last, h.out, fun t ht => ?_, fun e he => ?_, h.nums⟩
  · rw [pushQ_ss]
    show _ = (fl (r.L ++ [⟨s, 0, proto, un, A, c, xs, 0⟩]) t).map toM
    rw [fl_app, fl_cons, List.map_append]
    by_cases e : t = s
    · subst e
      rw [upd_same, if_pos rfl, h.ss t h1]
      rfl
    · rw [upd_ne _ _ _ _ e, if_neg (show ¬ s = t from fun e' => e e'.symm), h.ss t ht]
      simp [fl]
  · rcases List.mem_append.1 he with he | he
    · exact h.st e he
    · simp at he
      subst he
      exact ⟨h1, h2⟩
/-- the entry that is begun has its number -/
def entB (r : RS) (e : Ent) : Ent := if e.at_ = 0 ∧ e.un = false then { e with ssn := r.ssn e.st } else e
def rbeg (r : RS) (e : Ent) : RS := { r with last := if e.at_ = 0 then (e.st : Int) else r.last, ssn := if e.at_ = 0 ∧ e.un = false then upd r.ssn e.st (IntKind.u16.wrap (r.ssn e.st + 1)) else r.ssn }
def rtake (r : RS) (pre : List Ent) (e : Ent) (post : List Ent) (x : Nat) : RS :=
  if rest e ≤ x then { rbeg r e with L := pre ++ post, out := r.out + rest e }
  else { rbeg r e with L := pre ++ { entB r e with at_ := e.at_ + x } :: post, out := r.out + x }
section
variable {q : QS} {r : RS} {pre post : List Ent} {e : Ent} {ms : List Msg}
theorem entB_f (r : RS) (e : Ent) : (entB r e).st = e.st ∧ (entB r e).proto = e.proto ∧ (entB r e).un = e.un ∧ (entB r e).data = e.data ∧ (entB r e).at_ = e.at_ ∧ (entB r e).A = e.A ∧ (entB r e).c = e.c := by
  unfold entB
  split <;> exact ⟨rfl, rfl, rfl, rfl, rfl, rfl, rfl⟩
/-- the number that the first piece has -/
theorem RR.ssn (h : RR q r) (hs : e.st < q.n) : (begM q e.st (toM e)).ssn = (entB r e).ssn := by
  unfold begM entB
  by_cases h0 : 0 < e.at_
  · rw [if_pos (by simp [toM, h0]), if_neg (by omega)]
    rfl
  · rw [if_neg (by simp [toM, h0])]
    cases hu : e.un with
    | true => simp [toM, hu]
    | false =>
      simp [toM, hu, h.nums e.st hs, show e.at_ = 0 from by omega]
theorem RR.take (h : RR q r) (hL : r.L = pre ++ e :: post) (hpre : ∀ y ∈ pre, y.st ≠ e.st) (he : q.ss e.st = toM e :: ms) (hc : (q.opn = e.st ∧ (toM e).begun = true) ∨ (q.opn < 0 ∧ (toM e).begun = false)) (x : Nat) (h0 : 1 ≤ x) : RR (takeQ q e.st (toM e) ms x) (rtake r pre e post x) := by
  have hmem : e ∈ r.L := by rw [hL]; simp
  obtain ⟨hs, hat⟩ := h.st e hmem
  have hms : ms = (fl post e.st).map toM := by
    have := h.ss e.st hs
    rw [hL, fl_first rfl hpre, he] at this
    simpa using this
  have hlen : (toM e).data.length = rest e := by simp [toM, rest]
  have hbg : (toM e).begun = decide (0 < e.at_) := rfl
  have hQ := takeQ_f q e.st (toM e) ms x
  have hlast : (takeQ q e.st (toM e) ms x).last = if e.at_ = 0 then (e.st : Int) else r.last := by
    rw [takeQ_last, hbg, h.last]
    by_cases h1 : e.at_ = 0
    · rw [if_pos h1, if_neg (by simp; omega)]
    · rw [if_neg h1, if_pos (by simp; omega)]
  have hnums : ∀ t, t < q.n → (if e.at_ = 0 ∧ e.un = false then upd r.ssn e.st (IntKind.u16.wrap (r.ssn e.st + 1)) else r.ssn) t = (takeQ q e.st (toM e) ms x).nums t := by
    intro t ht
    have hn : (takeQ q e.st (toM e) ms x).nums = if e.at_ = 0 ∧ e.un = false then upd q.nums e.st (IntKind.u16.wrap (q.nums e.st + 1)) else q.nums := by
      have : (takeQ q e.st (toM e) ms x).nums = (begQ q e.st (toM e) ms).nums := by unfold takeQ; split <;> rfl
      rw [this]
      unfold begQ
      by_cases h1 : e.at_ = 0
      · rw [if_neg (by rw [hbg]; simp; omega)]
        show (if (toM e).un then q.nums else _) = _
        cases hu : e.un with
        | true => rw [if_pos (show (toM e).un = true from hu), if_neg (by simp)]
        | false => rw [if_neg (show ¬ (toM e).un = true by rw [show (toM e).un = false from hu]; simp), if_pos ⟨h1, rfl⟩]
      · rw [if_pos (by rw [hbg]; simp; omega), if_neg (by omega)]
    rw [hn]
    split
    · by_cases e1 : t = e.st
      · subst e1; rw [upd_same, upd_same, h.nums e.st hs]
      · rw [upd_ne _ _ _ _ e1, upd_ne _ _ _ _ e1, h.nums t ht]
    · exact h.nums t ht
  have hI := h.i.take e.st (toM e) ms x hs he hc h0
  unfold rtake
  by_cases hx : rest e ≤ x
  · rw [if_pos hx]
    obtain ⟨e1, e2⟩ := takeQ_end q e.st (toM e) ms x (by rw [hlen]; exact hx)
    refine ⟨hI, h.n.trans hQ.1.symm, h.lim.trans hQ.2.symm, hlast.symm, ?_, fun t ht => ?_, fun y hy => ?_, fun t ht => hnums t (by rw [← hQ.1]; exact ht)⟩
    · show r.out + rest e = _
      unfold takeQ
      rw [if_pos (by rw [hlen]; exact hx), h.out, ← hlen]
    · have ht' : t < q.n := by rw [← hQ.1]; exact ht
      show _ = (fl (pre ++ post) t).map toM
      by_cases et : t = e.st
      · subst et
        rw [e1, fl_app, fl_none pre _ hpre, hms]
        rfl
      · rw [takeQ_ss_ne _ _ _ _ _ _ et, h.ss t ht', hL, fl_app, fl_cons, if_neg (fun e' => et e'.symm), fl_app]
    · have hy' : y ∈ r.L := by
        rw [hL]
        rcases List.mem_append.1 hy with hy | hy
        · exact List.mem_append.2 (.inl hy)
        · exact List.mem_append.2 (.inr (List.mem_cons_of_mem _ hy))
      have := h.st y hy'
      exact ⟨by rw [hQ.1]; exact this.1, this.2⟩
  · rw [if_neg hx]
    obtain ⟨e1, e2⟩ := takeQ_mid q e.st (toM e) ms x (by rw [hlen]; omega) hc
    obtain ⟨b1, b2, b3, b4, b5, b6, b7⟩ := entB_f r e
    refine ⟨hI, h.n.trans hQ.1.symm, h.lim.trans hQ.2.symm, hlast.symm, ?_, fun t ht => ?_, fun y hy => ?_, fun t ht => hnums t (by rw [← hQ.1]; exact ht)⟩
    · show r.out + x = _
      unfold takeQ
      rw [if_neg (by rw [hlen]; exact hx), h.out]
    · have ht' : t < q.n := by rw [← hQ.1]; exact ht
      show _ = (fl (pre ++ { entB r e with at_ := e.at_ + x } :: post) t).map toM
      by_cases et : t = e.st
      · subst et
        rw [e1, fl_first (by exact b1) hpre, List.map_cons, hms]
        congr 1
        have hssn := h.ssn (e := e) hs
        obtain ⟨g1, g2, g3, g4⟩ := begM_f q e.st (toM e)
        have : toM { entB r e with at_ := e.at_ + x } = ⟨(entB r e).ssn, (entB r e).proto, (entB r e).un, (entB r e).data.drop (e.at_ + x), decide (0 < e.at_ + x)⟩ := rfl
        rw [this, ← hssn, b2, b3, b4, decide_eq_true (by omega)]
        have hM : ∀ M : Msg, M = ⟨M.ssn, M.proto, M.un, M.data, M.begun⟩ := fun _ => rfl
        rw [hM (begM q e.st (toM e))]
        simp only [g2, g3, g4]
        simp [toM, List.drop_drop]
      · rw [takeQ_ss_ne _ _ _ _ _ _ et, h.ss t ht', hL, fl_app, fl_cons, if_neg (fun e' => et e'.symm), fl_app, fl_cons, if_neg (show ¬ (entB r e).st = t by rw [b1]; exact fun e' => et e'.symm)]
    · rcases List.mem_append.1 hy with hy | hy
      · have := h.st y (by rw [hL]; exact List.mem_append.2 (.inl hy))
        exact ⟨by rw [hQ.1]; exact this.1, this.2⟩
      · rcases List.mem_cons.1 hy with rfl | hy
        · refine ⟨by rw [hQ.1]; show (entB r e).st < _; rw [b1]; exact hs, ?_⟩
          show e.at_ + x < (entB r e).data.length
          rw [b4]
          have : rest e = e.data.length - e.at_ := rfl
          omega
        · have := h.st y (by rw [hL]; exact List.mem_append.2 (.inr (List.mem_cons_of_mem _ hy)))
          exact ⟨by rw [hQ.1]; exact this.1, this.2⟩
end
