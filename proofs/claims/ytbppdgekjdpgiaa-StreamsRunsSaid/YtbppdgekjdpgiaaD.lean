/- Layer 16: what a queue is in memory, and what a change of one block leaves of it. -/
import Derived.Test.YtbppdgekjdpgiaaC
namespace Go.Proofs.Ytbppdgekjdpgiaa.C
open Go.RowKit
set_option linter.unusedVariables false
set_option linter.unusedSimpArgs false

/-- a message that waits, with the bytes that are left -/
structure Msg where
  ssn : Int
  proto : Int
  un : Bool
  data : List Int
  begun : Bool
/-- what a queue holds -/
structure QS where
  n : Nat
  lim : Int
  wai : Int
  tak : Int
  last : Int
  opn : Int
  ss : Nat → List Msg
  nums : Nat → Int
/-- where it lies: a block's role tells whose it is -/
structure Lay where
  bl : Nat
  bn : Nat
  sv : Nat → Value
  hd : Nat → Nat
  mb : Nat → Nat → Nat
  role : Nat → Nat × Nat × Nat
def qcells (q : QS) (L : Lay) : Array Value := #[.slice (some ⟨L.bl, 0, none⟩) q.n q.n, .slice (some ⟨L.bn, 0, none⟩) q.n q.n, .int .i64 q.lim, .int .i64 q.wai, .int .i64 q.tak, .int .i64 q.last, .int .i64 q.opn]
def ptrs (q : QS) (L : Lay) (s : Nat) : List Value := (List.range (q.ss s).length).map fun k => .pointer (some ⟨L.mb s (L.hd s + k), 0, none⟩)
/-- message m of stream s lies in block b -/
def MB (w : World) (role : Nat → Nat × Nat × Nat) (b s : Nat) (m : Msg) : Prop :=
  ∃ A c, w.heap[b]? = some (.cells #[.int .u16 s, .int .u16 m.ssn, .int .u32 m.proto, .bool m.un, .slice A m.data.length c, .bool m.begun] 66 (0, 0)) ∧ Rd .u8 w A m.data.length m.data ∧ m.data.length ≤ c ∧ (A = none → c = 0) ∧ ∀ ad, A = some ad → role ad.block = (5, 0, 0) ∧ ad.block < w.heap.size
structure QM (w : World) (base g : Nat) (q : QS) (L : Lay) : Prop where
  qb : w.heap[g]? = some (.cells (qcells q L) 59 (0, 0))
  lb : ∃ lv : Array Value, w.heap[L.bl]? = some (.cells lv 67 (0, 0)) ∧ lv.size = q.n ∧ ∀ s, s < q.n → lv[s]? = some (L.sv s)
  nb : ∃ nv : Array Value, w.heap[L.bn]? = some (.cells nv 30 (0, 0)) ∧ nv.size = q.n ∧ ∀ s, s < q.n → nv[s]? = some (.int .u16 (q.nums s))
  sv : ∀ s, s < q.n → SV w (L.sv s) (ptrs q L s)
  svr : ∀ s, s < q.n → ∀ b, (L.sv s).ownBlock = some b → L.role b = (3, s, 0) ∧ base ≤ b
  ms : ∀ s, s < q.n → ∀ k m, (q.ss s)[k]? = some m → MB w L.role (L.mb s (L.hd s + k)) s m
  mr : ∀ s, s < q.n → ∀ k, k < (q.ss s).length → L.role (L.mb s (L.hd s + k)) = (4, s, L.hd s + k) ∧ base ≤ L.mb s (L.hd s + k)
  rg : L.role g = (0, 0, 0)
  rl : L.role L.bl = (1, 0, 0)
  rn : L.role L.bn = (2, 0, 0)
  hg : base ≤ g
  hl : base ≤ L.bl
  hn : base ≤ L.bn
/-- no block but b has changed -/
def Oth (w w' : World) (b : Nat) : Prop := w.heap.size ≤ w'.heap.size ∧ ∀ k, k < w.heap.size → k ≠ b → w'.heap[k]? = w.heap[k]?
theorem oth_set (w : World) (b j : Nat) (v : Value) : Oth w (w.setCell ⟨b, j, none⟩ v) b := ⟨by simp, fun k _ hk => heap_setCell_other w ⟨b, j, none⟩ k v (fun e => hk e)⟩
theorem oth_grown {w w' : World} {b : Nat} (h : w.grownBy w' (some b)) : Oth w w' b := ⟨h.size, fun k hk hne => h.block k hk (by simpa using hne)⟩
theorem lt_of_heap {w : World} {b : Nat} {x : Obj} (h : w.heap[b]? = some x) : b < w.heap.size := (Array.getElem?_eq_some_iff.1 h).1
section
variable {w w' : World} {base g : Nat} {q : QS} {L : Lay} {b : Nat}
theorem role_ne {role : Nat → Nat × Nat × Nat} {x y : Nat} (h : role x ≠ role y) : x ≠ y := fun e => h (by rw [e])
theorem MB.keep {role : Nat → Nat × Nat × Nat} {c s : Nat} {m : Msg} (h : MB w role c s m) (ho : Oth w w' b) (hc : c ≠ b) (hr : role b ≠ (5, 0, 0)) : MB w' role c s m := by
  obtain ⟨A, cap, h1, h2, h3, h4, h5⟩ := h
  refine ⟨A, cap, by rw [ho.2 c (lt_of_heap h1) hc]; exact h1, ⟨h2.1, h2.2.1, fun h0 => ?_⟩, h3, h4, fun ad e => ⟨(h5 ad e).1, Nat.lt_of_lt_of_le (h5 ad e).2 ho.1⟩⟩
  obtain ⟨ad, rfl, hcell⟩ := h2.2.2 h0
  refine ⟨ad, rfl, fun j hj => ?_⟩
  have hx := hcell j hj
  have hlt := World.block_lt_of_cell? w _ hx
  rw [World.cell?_of_block (ho.2 _ hlt (by rw [block_add]; exact role_ne (role := role) (by rw [(h5 ad rfl).1]; exact Ne.symm hr)))]
  exact hx
theorem QM.qbK (h : QM w base g q L) (ho : Oth w w' b) (hr : L.role b ≠ (0, 0, 0)) : w'.heap[g]? = some (.cells (qcells q L) 59 (0, 0)) := by
  rw [ho.2 g (lt_of_heap h.qb) (role_ne (role := L.role) (by rw [h.rg]; exact Ne.symm hr))]; exact h.qb
theorem QM.lbK (h : QM w base g q L) (ho : Oth w w' b) (hr : L.role b ≠ (1, 0, 0)) : ∃ lv : Array Value, w'.heap[L.bl]? = some (.cells lv 67 (0, 0)) ∧ lv.size = q.n ∧ ∀ s, s < q.n → lv[s]? = some (L.sv s) := by
  obtain ⟨lv, h1, h2, h3⟩ := h.lb
  exact ⟨lv, by rw [ho.2 _ (lt_of_heap h1) (role_ne (role := L.role) (by rw [h.rl]; exact Ne.symm hr))]; exact h1, h2, h3⟩
theorem QM.nbK (h : QM w base g q L) (ho : Oth w w' b) (hr : L.role b ≠ (2, 0, 0)) : ∃ nv : Array Value, w'.heap[L.bn]? = some (.cells nv 30 (0, 0)) ∧ nv.size = q.n ∧ ∀ s, s < q.n → nv[s]? = some (.int .u16 (q.nums s)) := by
  obtain ⟨nv, h1, h2, h3⟩ := h.nb
  exact ⟨nv, by rw [ho.2 _ (lt_of_heap h1) (role_ne (role := L.role) (by rw [h.rn]; exact Ne.symm hr))]; exact h1, h2, h3⟩
theorem QM.svK (h : QM w base g q L) (ho : Oth w w' b) (s : Nat) (hs : s < q.n) (hr : L.role b ≠ (3, s, 0)) : SV w' (L.sv s) (ptrs q L s) :=
  (h.sv s hs).keep fun c hc => ho.2 c ((h.sv s hs).lt c hc) (role_ne (role := L.role) (by rw [(h.svr s hs c hc).1]; exact Ne.symm hr))
theorem QM.msK (h : QM w base g q L) (ho : Oth w w' b) (hr5 : L.role b ≠ (5, 0, 0)) (s : Nat) (hs : s < q.n) (k : Nat) (m : Msg) (hm : (q.ss s)[k]? = some m) (hr : L.role b ≠ (4, s, L.hd s + k)) : MB w' L.role (L.mb s (L.hd s + k)) s m :=
  (h.ms s hs k m hm).keep ho (role_ne (role := L.role) (by rw [(h.mr s hs k (List.getElem?_eq_some_iff.1 hm).1).1]; exact Ne.symm hr)) hr5
/-- nothing of the queue's has changed -/
theorem QM.frame (h : QM w base g q L) (hsz : w.heap.size ≤ w'.heap.size) (ho : ∀ k, k < w.heap.size → L.role k ≠ (9, 0, 0) → w'.heap[k]? = w.heap[k]?) : QM w' base g q L := by
  refine { h with qb := ?_, lb := ?_, nb := ?_, sv := ?_, ms := ?_ }
  · rw [ho g (lt_of_heap h.qb) (by rw [h.rg]; simp)]; exact h.qb
  · obtain ⟨lv, h1, h2⟩ := h.lb
    exact ⟨lv, by rw [ho _ (lt_of_heap h1) (by rw [h.rl]; simp)]; exact h1, h2⟩
  · obtain ⟨nv, h1, h2⟩ := h.nb
    exact ⟨nv, by rw [ho _ (lt_of_heap h1) (by rw [h.rn]; simp)]; exact h1, h2⟩
  · exact fun s hs => (h.sv s hs).keep fun c hc => ho c ((h.sv s hs).lt c hc) (by rw [(h.svr s hs c hc).1]; simp)
  · intro s hs k m hm
    obtain ⟨A, cap, h1, h2, h3, h4, h5⟩ := h.ms s hs k m hm
    refine ⟨A, cap, by rw [ho _ (lt_of_heap h1) (by rw [(h.mr s hs k (List.getElem?_eq_some_iff.1 hm).1).1]; simp)]; exact h1, ⟨h2.1, h2.2.1, fun h0 => ?_⟩, h3, h4, fun ad e => ⟨(h5 ad e).1, Nat.lt_of_lt_of_le (h5 ad e).2 hsz⟩⟩
    obtain ⟨ad, rfl, hcell⟩ := h2.2.2 h0
    refine ⟨ad, rfl, fun j hj => ?_⟩
    have hx := hcell j hj
    rw [World.cell?_of_block (ho _ (World.block_lt_of_cell? w _ hx) (by rw [block_add, (h5 ad rfl).1]; simp))]
    exact hx
theorem QM.below (h : QM w base g q L) (hb : Below w.heap.size w w') : QM w' base g q L := h.frame hb.size fun k hk _ => hb.block k hk
theorem QM.drew (h : QM w base g q L) : QM w.drew base g q L := h.frame (Nat.le_refl _) fun k hk _ => rfl
/-- a field of the queue's own -/
theorem QM.setQ (h : QM w base g q L) (q' : QS) (hn : q'.n = q.n) (hss : q'.ss = q.ss) (hnu : q'.nums = q.nums) (hq : w'.heap[g]? = some (.cells (qcells q' L) 59 (0, 0))) (ho : Oth w w' g) : QM w' base g q' L := by
  obtain ⟨n, lim, wai, tak, last, opn, ss, nums⟩ := q'
  simp only at hn hss hnu
  subst hn hss hnu
  have e := h.rg
  exact { qb := hq, lb := h.lbK ho (by rw [e]; simp), nb := h.nbK ho (by rw [e]; simp), sv := fun s hs => h.svK ho s hs (by rw [e]; simp), svr := h.svr, ms := fun s hs k m hm => h.msK ho (by rw [e]; simp) s hs k m hm (by rw [e]; simp), mr := h.mr, rg := h.rg, rl := h.rl, rn := h.rn, hg := h.hg, hl := h.hl, hn := h.hn }
/-- the number of stream s -/
theorem QM.setNum (h : QM w base g q L) (s : Nat) (x : Int) : QM (w.setCell ⟨L.bn, s, none⟩ (.int .u16 x)) base g { q with nums := fun t => if t = s then x else q.nums t } L := by
  have ho := oth_set w L.bn s (.int .u16 x)
  have e := h.rn
  obtain ⟨nv, h1, h2, h3⟩ := h.nb
  refine { qb := h.qbK ho (by rw [e]; simp), lb := h.lbK ho (by rw [e]; simp), nb := ⟨_, heap_setCell_same w L.bn s nv 30 _ h1, by simpa using h2, fun t ht => ?_⟩, sv := fun s hs => h.svK ho s hs (by rw [e]; simp), svr := h.svr, ms := fun s hs k m hm => h.msK ho (by rw [e]; simp) s hs k m hm (by rw [e]; simp), mr := h.mr, rg := h.rg, rl := h.rl, rn := h.rn, hg := h.hg, hl := h.hl, hn := h.hn }
  by_cases hts : t = s
  · subst hts
    simp [Array.getElem?_setIfInBounds_self, h2, ht]
  · rw [Array.getElem?_setIfInBounds_ne (by omega)]
    simp only [if_neg hts]
    exact h3 t ht
/-- message k of stream s is another one now -/
theorem QM.setMsg (h : QM w base g q L) (s k : Nat) (hs : s < q.n) (m : Msg) (hk : k < (q.ss s).length) (ho : Oth w w' (L.mb s (L.hd s + k))) (hm : MB w' L.role (L.mb s (L.hd s + k)) s m) :
    QM w' base g { q with ss := fun t => if t = s then (q.ss s).set k m else q.ss t } L := by
  have e := (h.mr s hs k hk).1
  have hlen : ∀ t, (if t = s then (q.ss s).set k m else q.ss t).length = (q.ss t).length := fun t => by
    by_cases hts : t = s
    · subst hts; simp
    · simp [hts]
  refine { qb := h.qbK ho (by rw [e]; simp), lb := h.lbK ho (by rw [e]; simp), nb := h.nbK ho (by rw [e]; simp), sv := fun t ht => ?_, svr := h.svr, ms := fun t ht j m' hm' => ?_, mr := fun t ht j hj => h.mr t ht j (by rw [← hlen t]; exact hj), rg := h.rg, rl := h.rl, rn := h.rn, hg := h.hg, hl := h.hl, hn := h.hn }
  · have := h.svK ho t ht (by rw [e]; simp)
    unfold ptrs at this ⊢
    simp only [hlen t]
    exact this
  · simp only at hm'
    by_cases hts : t = s
    · subst hts
      rw [if_pos rfl, List.getElem?_set] at hm'
      by_cases hjk : k = j
      · subst hjk
        simp [hk] at hm'
        subst hm'
        exact hm
      · rw [if_neg hjk] at hm'
        exact h.msK ho (by rw [e]; simp) t ht j m' hm' (by rw [e]; simp; omega)
    · rw [if_neg hts] at hm'
      exact h.msK ho (by rw [e]; simp) t ht j m' hm' (by rw [e]; simp; omega)
/-- blocks that are not yet there may have any role -/
theorem QM.reRole (h : QM w base g q L) (role : Nat → Nat × Nat × Nat) (hr : ∀ b, b < w.heap.size → role b = L.role b) : QM w base g q { L with role := role } := by
  refine { h with svr := ?_, ms := ?_, mr := ?_, rg := ?_, rl := ?_, rn := ?_ }
  · exact fun s hs b hb => ⟨by rw [← (h.svr s hs b hb).1]; exact hr b ((h.sv s hs).lt b hb), (h.svr s hs b hb).2⟩
  · intro s hs k m hm
    obtain ⟨A, cap, h1, h2, h3, h4, h5⟩ := h.ms s hs k m hm
    exact ⟨A, cap, h1, h2, h3, h4, fun ad e => ⟨(hr _ (h5 ad e).2).trans (h5 ad e).1, (h5 ad e).2⟩⟩
  · intro s hs k hk
    have hm : (q.ss s)[k]? = some (q.ss s)[k] := List.getElem?_eq_getElem hk
    obtain ⟨A, cap, h1, _⟩ := h.ms s hs k _ hm
    exact ⟨(hr _ (lt_of_heap h1)).trans (h.mr s hs k hk).1, (h.mr s hs k hk).2⟩
  · exact (hr _ (lt_of_heap h.qb)).trans h.rg
  · obtain ⟨lv, h1, _⟩ := h.lb
    exact (hr _ (lt_of_heap h1)).trans h.rl
  · obtain ⟨nv, h1, _⟩ := h.nb
    exact (hr _ (lt_of_heap h1)).trans h.rn
/-- the first message of stream s is taken off -/
theorem QM.pop (h : QM w base g q L) (s : Nat) (hs : s < q.n) (m : Msg) (ms : List Msg) (he : q.ss s = m :: ms) (v : Value) (hv : SV w v ((ptrs q L s).drop 1)) (hvo : ∀ b, v.ownBlock = some b → (L.sv s).ownBlock = some b) :
    QM (w.setCell ⟨L.bl, s, none⟩ v) base g { q with ss := fun t => if t = s then ms else q.ss t } { L with sv := fun t => if t = s then v else L.sv t, hd := fun t => if t = s then L.hd s + 1 else L.hd t } := by
  have ho := oth_set w L.bl s v
  have e := h.rl
  obtain ⟨lv, h1, h2, h3⟩ := h.lb
  refine { qb := h.qbK ho (by rw [e]; simp), lb := ⟨_, heap_setCell_same w L.bl s lv 67 _ h1, by simpa using h2, fun t ht => ?_⟩, nb := h.nbK ho (by rw [e]; simp), sv := fun t ht => ?_, svr := fun t ht b hb => ?_, ms := fun t ht k m' hm' => ?_, mr := fun t ht k hk => ?_, rg := h.rg, rl := h.rl, rn := h.rn, hg := h.hg, hl := h.hl, hn := h.hn }
  · by_cases hts : t = s
    · subst hts
      simp [Array.getElem?_setIfInBounds_self, h2, hs]
    · rw [Array.getElem?_setIfInBounds_ne (by omega)]
      simp only [if_neg hts]
      exact h3 t ht
  · by_cases hts : t = s
    · subst hts
      have hp : (ptrs q L t).drop 1 = ptrs { q with ss := fun t' => if t' = t then ms else q.ss t' } { L with sv := fun t' => if t' = t then v else L.sv t', hd := fun t' => if t' = t then L.hd t + 1 else L.hd t' } t := by
        unfold ptrs
        simp only [he, if_true, List.length_cons]
        apply List.ext_getElem?
        intro j
        simp only [List.getElem?_drop, List.getElem?_map, List.getElem?_range', List.getElem?_range]
        by_cases hj : j < ms.length
        · rw [List.getElem?_range (by omega), List.getElem?_range hj]
          simp only [Option.map_some]
          rw [show L.hd t + (1 + j) = L.hd t + 1 + j from by omega]
        · rw [List.getElem?_eq_none (by simp; omega), List.getElem?_eq_none (by simp; omega)]
          rfl
      rw [← hp]
      simp only [if_true]
      exact hv.keep fun b hb => ho.2 b (hv.lt b hb) (role_ne (role := L.role) (by rw [(h.svr t hs b (hvo b hb)).1, e]; simp))
    · have := h.svK ho t ht (by rw [e]; simp)
      unfold ptrs at this ⊢
      simpa only [if_neg hts] using this
  · by_cases hts : t = s
    · subst hts
      simp only [if_true] at hb
      exact h.svr t hs b (hvo b hb)
    · simp only [if_neg hts] at hb
      exact h.svr t ht b hb
  · by_cases hts : t = s
    · subst hts
      simp only [if_true] at hm' ⊢
      have := h.msK ho (by rw [e]; simp) t hs (k + 1) m' (by rw [he]; simpa using hm') (by rw [e]; simp)
      have ea : L.hd t + (k + 1) = L.hd t + 1 + k := by omega
      rwa [ea] at this
    · simp only [if_neg hts] at hm' ⊢
      exact h.msK ho (by rw [e]; simp) t ht k m' hm' (by rw [e]; simp)
  · by_cases hts : t = s
    · subst hts
      simp only [if_true] at hk ⊢
      have := h.mr t hs (k + 1) (by rw [he]; simp; omega)
      have ea : L.hd t + (k + 1) = L.hd t + 1 + k := by omega
      rwa [ea] at this
    · simp only [if_neg hts] at hk ⊢
      exact h.mr t ht k hk
/-- a message is put behind stream s -/
theorem QM.push (h : QM w base g q L) (s : Nat) (hs : s < q.n) (m : Msg) (B : Nat) (hB : MB w L.role B s m) (hBr : L.role B = (4, s, L.hd s + (q.ss s).length)) (hBb : base ≤ B) (hbase : base ≤ w.heap.size)
    (w2 : World) (v : Value) (hv : SV w2 v (ptrs q L s ++ [.pointer (some ⟨B, 0, none⟩)])) (hg : w.grownBy w2 (L.sv s).ownBlock) (hvo : v.ownBlock = (L.sv s).ownBlock ∨ ∃ b, v.ownBlock = some b ∧ w.heap.size ≤ b) :
    ∃ L', QM (w2.setCell ⟨L.bl, s, none⟩ v) base g { q with ss := fun t => if t = s then q.ss s ++ [m] else q.ss t } L' ∧ L'.bl = L.bl ∧ L'.bn = L.bn ∧ ∀ b, b < w.heap.size → L'.role b = L.role b := by
  let role' : Nat → Nat × Nat × Nat := fun b => if w.heap.size ≤ b then (3, s, 0) else L.role b
  have hrole : ∀ b, b < w.heap.size → role' b = L.role b := fun b hb => if_neg (by omega)
  have hR := h.reRole role' hrole
  have hBlt : B < w.heap.size := by obtain ⟨A, c, h1, _⟩ := hB; exact lt_of_heap h1
  -- the world behind the append
  have keep2 : ∀ b, b < w.heap.size → role' b ≠ (3, s, 0) → w2.heap[b]? = w.heap[b]? := fun b hb hr => hg.block b hb (fun e => hr (by
    have := (h.svr s hs b e.symm).1
    rw [hrole b hb]; exact this))
  have hsz := hg.size
  have hlt : ∀ {b : Nat} {x : Obj}, w.heap[b]? = some x → b < w.heap.size := fun h => lt_of_heap h
  have mb2 : ∀ (b t : Nat) (m' : Msg), MB w L.role b t m' → L.role b ≠ (3, s, 0) → MB w2 role' b t m' := by
    intro b t m' hm hr
    obtain ⟨A, c, h1, h2, h3, h4, h5⟩ := hm
    refine ⟨A, c, by rw [keep2 b (hlt h1) (by rw [hrole b (hlt h1)]; exact hr)]; exact h1, ⟨h2.1, h2.2.1, fun h0 => ?_⟩, h3, h4, fun ad e => ⟨by rw [hrole _ (h5 ad e).2]; exact (h5 ad e).1, Nat.lt_of_lt_of_le (h5 ad e).2 hsz⟩⟩
    obtain ⟨ad, rfl, hcell⟩ := h2.2.2 h0
    refine ⟨ad, rfl, fun j hj => ?_⟩
    have hx := hcell j hj
    rw [World.cell?_of_block (keep2 _ (World.block_lt_of_cell? w _ hx) (by rw [block_add, hrole _ (h5 ad rfl).2, (h5 ad rfl).1]; simp))]
    exact hx
  obtain ⟨lv, l1, l2, l3⟩ := h.lb
  obtain ⟨nv, n1, n2, n3⟩ := h.nb
  have lbl : L.bl < w.heap.size := hlt l1
  have rbl : role' L.bl = (1, 0, 0) := (hrole _ lbl).trans h.rl
  have lb2 : w2.heap[L.bl]? = some (.cells lv 67 (0, 0)) := by rw [keep2 _ lbl (by rw [rbl]; simp)]; exact l1
  have ho := oth_set w2 L.bl s v
  have at3 : ∀ b, b < w.heap.size → role' b ≠ (3, s, 0) → role' b ≠ (1, 0, 0) → (w2.setCell ⟨L.bl, s, none⟩ v).heap[b]? = w.heap[b]? := fun b hb h3 h1 => by
    rw [ho.2 b (Nat.lt_of_lt_of_le hb hsz) (fun e => h1 (by rw [e]; exact rbl))]
    exact keep2 b hb h3
  have mb3 : ∀ (b t : Nat) (m' : Msg), MB w L.role b t m' → L.role b ≠ (3, s, 0) → L.role b ≠ (1, 0, 0) → MB (w2.setCell ⟨L.bl, s, none⟩ v) role' b t m' := fun b t m' hm hr hr1 => by
    have hb : b < w.heap.size := by obtain ⟨A, c, h1, _⟩ := hm; exact hlt h1
    exact (mb2 b t m' hm hr).keep ho (fun e => hr1 (by rw [e]; exact h.rl)) (by rw [rbl]; simp)
  refine ⟨{ L with sv := fun t => if t = s then v else L.sv t, mb := fun t k => if t = s ∧ k = L.hd s + (q.ss s).length then B else L.mb t k, role := role' }, ?_, rfl, rfl, hrole⟩
  refine { qb := ?_, lb := ⟨_, heap_setCell_same w2 L.bl s lv 67 _ lb2, by simpa using l2, fun t ht => ?_⟩, nb := ⟨nv, ?_, n2, n3⟩, sv := fun t ht => ?_, svr := fun t ht b hb => ?_, ms := fun t ht k m' hm' => ?_, mr := fun t ht k hk => ?_, rg := ?_, rl := rbl, rn := ?_, hg := h.hg, hl := h.hl, hn := h.hn }
  · rw [at3 g (hlt h.qb) (by rw [hrole _ (hlt h.qb), h.rg]; simp) (by rw [hrole _ (hlt h.qb), h.rg]; simp)]
    exact h.qb
  · by_cases hts : t = s
    · subst hts
      simp [Array.getElem?_setIfInBounds_self, l2, hs]
    · rw [Array.getElem?_setIfInBounds_ne (by omega)]
      simp only [if_neg hts]
      exact l3 t ht
  · rw [at3 L.bn (hlt n1) (by rw [hrole _ (hlt n1), h.rn]; simp) (by rw [hrole _ (hlt n1), h.rn]; simp)]
    exact n1
  · by_cases hts : t = s
    · subst hts
      have hp : ptrs q L t ++ [.pointer (some ⟨B, 0, none⟩)] = ptrs { q with ss := fun t' => if t' = t then q.ss t ++ [m] else q.ss t' } { L with sv := fun t' => if t' = t then v else L.sv t', mb := fun t' k => if t' = t ∧ k = L.hd t + (q.ss t).length then B else L.mb t' k, role := role' } t := by
        unfold ptrs
        simp only [if_true, List.length_append, List.length_cons, List.length_nil, Nat.zero_add, List.range_succ, List.map_append, List.map_cons, List.map_nil, true_and]
        congr 1
        apply List.map_congr_left
        intro k hk
        rw [List.mem_range] at hk
        rw [if_neg (by omega)]
      rw [← hp]
      simp only [if_true]
      refine hv.keep fun b hb => ho.2 b (hv.lt b hb) (fun e => ?_)
      rcases hvo with h1 | ⟨b', h1, h2⟩
      · rw [h1] at hb
        have := (h.svr t hs b hb).1
        rw [e, h.rl] at this
        cases this
      · rw [hb] at h1
        obtain rfl := Option.some.inj h1
        omega
    · have h0 := h.sv t ht
      have hp : ptrs q L t = ptrs { q with ss := fun t' => if t' = s then q.ss s ++ [m] else q.ss t' } { L with sv := fun t' => if t' = s then v else L.sv t', mb := fun t' k => if t' = s ∧ k = L.hd s + (q.ss s).length then B else L.mb t' k, role := role' } t := by
        unfold ptrs
        simp only [if_neg hts, hts, false_and, if_false]
      rw [← hp]
      simp only [if_neg hts]
      refine h0.keep fun b hb => ?_
      have hbl := h0.lt b hb
      have hrb := (h.svr t ht b hb).1
      exact at3 b hbl (by rw [hrole _ hbl, hrb]; simp; omega) (by rw [hrole _ hbl, hrb]; simp)
  · by_cases hts : t = s
    · subst hts
      simp only [if_true] at hb
      rcases hvo with h1 | ⟨b', h1, h2⟩
      · rw [h1] at hb
        have hbl := (h.sv t hs).lt b hb
        exact ⟨(hrole _ hbl).trans (h.svr t hs b hb).1, (h.svr t hs b hb).2⟩
      · rw [hb] at h1
        obtain rfl := Option.some.inj h1
        exact ⟨if_pos h2, by omega⟩
    · simp only [if_neg hts] at hb
      have hbl := (h.sv t ht).lt b hb
      exact ⟨(hrole _ hbl).trans (h.svr t ht b hb).1, (h.svr t ht b hb).2⟩
  · by_cases hts : t = s
    · subst hts
      simp only [if_true, true_and] at hm' ⊢
      by_cases hk : k < (q.ss t).length
      · rw [List.getElem?_append_left hk] at hm'
        rw [if_neg (by omega)]
        exact mb3 _ _ _ (h.ms t hs k m' hm') (by rw [(h.mr t hs k hk).1]; simp) (by rw [(h.mr t hs k hk).1]; simp)
      · have hk2 := (List.getElem?_eq_some_iff.1 hm').1
        obtain rfl : k = (q.ss t).length := by simp at hk2; omega
        simp at hm'
        subst hm'
        rw [if_pos rfl]
        exact mb3 _ _ _ hB (by rw [hBr]; simp) (by rw [hBr]; simp)
    · simp only [if_neg hts, hts, false_and, if_false] at hm' ⊢
      have hk := (List.getElem?_eq_some_iff.1 hm').1
      exact mb3 _ _ _ (h.ms t ht k m' hm') (by rw [(h.mr t ht k hk).1]; simp) (by rw [(h.mr t ht k hk).1]; simp)
  · by_cases hts : t = s
    · subst hts
      simp only [if_true, true_and] at hk ⊢
      by_cases hk2 : k < (q.ss t).length
      · rw [if_neg (by omega)]
        have hmk : (q.ss t)[k]? = some (q.ss t)[k] := List.getElem?_eq_getElem hk2
        obtain ⟨A, c, h1, _⟩ := h.ms t hs k _ hmk
        exact ⟨(hrole _ (hlt h1)).trans (h.mr t hs k hk2).1, (h.mr t hs k hk2).2⟩
      · obtain rfl : k = (q.ss t).length := by simp at hk; omega
        rw [if_pos rfl]
        exact ⟨(hrole _ hBlt).trans hBr, hBb⟩
    · simp only [if_neg hts, hts, false_and, if_false] at hk ⊢
      have hmk : (q.ss t)[k]? = some (q.ss t)[k] := List.getElem?_eq_getElem hk
      obtain ⟨A, c, h1, _⟩ := h.ms t ht k _ hmk
      exact ⟨(hrole _ (hlt h1)).trans (h.mr t ht k hk).1, (h.mr t ht k hk).2⟩
  · exact (hrole _ (hlt h.qb)).trans h.rg
  · exact (hrole _ (hlt n1)).trans h.rn
end
