/- Layer 16: Take where it takes. -/
import Derived.Test.YtbppdgekjdpgiaaV
import Derived.Deep.DeepCutAuto
import Derived.Deep.CutBlock
namespace Go.Proofs.Ytbppdgekjdpgiaa.C
open Go.RowKit
set_option linter.unusedVariables false
set_option linter.unusedSimpArgs false
attribute [local go_sem high] max2_mx min2_mn max_two min_two
attribute [local go_sem ↓] Go.wp_at_zero Go.wp_at_succ

def part' (s ssn proto : Int) (un : Bool) (A : Option Addr) (n c : Nat) (bg en : Bool) : Array Value := #[.int .u16 s, .int .u16 ssn, .int .u32 proto, .bool un, .slice A n c, .bool bg, .bool en]
theorem Kept.set {w w' : World} {base b j : Nat} {L L' : Lay} {v : Value} (h : Kept w w' base L L') (hb : base ≤ b) (hr : L.role b ≠ (9, 0, 0)) (hr5 : L.role b ≠ (5, 0, 0)) : Kept w (w'.setCell ⟨b, j, none⟩ v) base L L' :=
  ⟨h.below.setCell hb _, h.role, fun k hk hkr => by
    rw [heap_setCell_other w' ⟨b, j, none⟩ k v (fun e => by
      rw [show k = b from e] at hkr
      rcases hkr with h1 | h1
      · exact hr h1
      · exact hr5 h1)]
    exact h.far k hk hkr⟩
theorem Kept.setNew {w w' : World} {base b j : Nat} {L L' : Lay} {v : Value} (h : Kept w w' base L L') (hbase : base ≤ w.heap.size) (hb : w.heap.size ≤ b) : Kept w (w'.setCell ⟨b, j, none⟩ v) base L L' :=
  ⟨h.below.setCell (Nat.le_trans hbase hb) _, h.role, fun k hk hkr => by
    rw [heap_setCell_other w' ⟨b, j, none⟩ k v (fun e => by have : k = b := e; omega)]
    exact h.far k hk hkr⟩
theorem Kept.trB {w w' w2 : World} {base : Nat} {L L' : Lay} (h : Kept w w' base L L') (hbase : base ≤ w.heap.size) (hb : Below w'.heap.size w' w2) : Kept w w2 base L L' :=
  ⟨h.below.trans (hb.mono (Nat.le_trans hbase h.below.size)), h.role, fun k hk hkr => (hb.block k (Nat.lt_of_lt_of_le hk h.below.size)).trans (h.far k hk hkr)⟩
theorem Kept.ofB {w w' : World} {base : Nat} {L : Lay} (hbase : base ≤ w.heap.size) (hb : Below w.heap.size w w') : Kept w w' base L L :=
  ⟨hb.mono hbase, fun _ _ => rfl, fun k hk _ => hb.block k hk⟩
/-- beside the queue's blocks: what lies at R and at P; all else is as it was -/
structure Mid (w w' : World) (base g : Nat) (q : QS) (L : Lay) (R P : Nat) (r p : Array Value) : Prop where
  qm : QM w' base g q L
  k : Kept w w' base L L
  r : w'.heap[R]? = some (.cells r 36 (0, 0))
  p : w'.heap[P]? = some (.cells p 36 (0, 0))
  rR : L.role R = (9, 0, 0)
  rP : L.role P = (9, 0, 0)
  nR : w.heap.size ≤ R
  nP : w.heap.size ≤ P
  RP : R ≠ P
  hb : base ≤ w.heap.size
section
variable {w w' w2 : World} {base g R P : Nat} {q q' : QS} {L : Lay} {r p : Array Value} {bg : Bool}
theorem Mid.set (h : Mid w w' base g q L R P r p) (b j : Nat) (v : Value) (hb : base ≤ b) (hr : L.role b ≠ (9, 0, 0)) (hr5 : L.role b ≠ (5, 0, 0)) (hq : QM (w'.setCell ⟨b, j, none⟩ v) base g q' L) : Mid w (w'.setCell ⟨b, j, none⟩ v) base g q' L R P r p :=
  { qm := hq, k := h.k.set hb hr hr5, r := by rw [heap_setCell_other w' ⟨b, j, none⟩ R v (fun e => hr (by rw [← show R = b from e]; exact h.rR))]; exact h.r, p := by rw [heap_setCell_other w' ⟨b, j, none⟩ P v (fun e => hr (by rw [← show P = b from e]; exact h.rP))]; exact h.p, rR := h.rR, rP := h.rP, nR := h.nR, nP := h.nP, RP := h.RP, hb := h.hb }
theorem Mid.setG (h : Mid w w' base g q L R P r p) (j : Nat) (v : Value) (hq : QM (w'.setCell ⟨g, j, none⟩ v) base g q' L) : Mid w (w'.setCell ⟨g, j, none⟩ v) base g q' L R P r p :=
  h.set g j v h.qm.hg (by rw [h.qm.rg]; simp) (by rw [h.qm.rg]; simp) hq
theorem Mid.setM (h : Mid w w' base g q L R P r p) (s : Nat) (hs : s < q.n) (m : Msg) (ms : List Msg) (he : q.ss s = m :: ms) (j : Nat) (v : Value) (hq : QM (w'.setCell ⟨L.mb s (L.hd s), j, none⟩ v) base g q' L) : Mid w (w'.setCell ⟨L.mb s (L.hd s), j, none⟩ v) base g q' L R P r p := by
  obtain ⟨h1, h2⟩ := h.qm.mr s hs 0 (by rw [he]; simp)
  rw [Nat.add_zero] at h1 h2
  exact h.set _ j v h2 (by rw [h1]; simp) (by rw [h1]; simp) hq
theorem Mid.setN (h : Mid w w' base g q L R P r p) (j : Nat) (v : Value) (hq : QM (w'.setCell ⟨L.bn, j, none⟩ v) base g q' L) : Mid w (w'.setCell ⟨L.bn, j, none⟩ v) base g q' L R P r p :=
  h.set _ j v h.qm.hn (by rw [h.qm.rn]; simp) (by rw [h.qm.rn]; simp) hq
theorem Mid.setP (h : Mid w w' base g q L R P r p) (j : Nat) (v : Value) : Mid w (w'.setCell ⟨P, j, none⟩ v) base g q L R P r (p.setIfInBounds j v) :=
  { qm := h.qm.frame (by simp) (fun k hk hr => heap_setCell_other w' ⟨P, j, none⟩ k v (fun e => hr (by rw [show k = P from e]; exact h.rP))), k := h.k.setNew h.hb h.nP, r := by rw [heap_setCell_other w' ⟨P, j, none⟩ R v (fun e => h.RP e)]; exact h.r, p := heap_setCell_same w' P j p 36 v h.p, rR := h.rR, rP := h.rP, nR := h.nR, nP := h.nP, RP := h.RP, hb := h.hb }
theorem Mid.trB (h : Mid w w' base g q L R P r p) (hb : Below w'.heap.size w' w2) : Mid w w2 base g q L R P r p :=
  { qm := h.qm.below hb, k := h.k.trB h.hb hb, r := by rw [hb.block R (lt_of_heap h.r)]; exact h.r, p := by rw [hb.block P (lt_of_heap h.p)]; exact h.p, rR := h.rR, rP := h.rP, nR := h.nR, nP := h.nP, RP := h.RP, hb := h.hb }
theorem Mid.mfr (h : Mid w w' base g q L R P r p) (s : Nat) (hs : s < q.n) (m : Msg) (ms : List Msg) (he : q.ss s = m :: ms) : ∀ j, w'.frozen? ⟨L.mb s (L.hd s), j, none⟩ = false := fun j => by
  obtain ⟨A, c, h1, _⟩ := h.qm.ms s hs 0 m (by rw [he]; rfl)
  exact frozen_of_row w' _ j _ 66 h1
theorem Mid.mcs (h : Mid w w' base g q L R P r p) (s : Nat) (hs : s < q.n) (m : Msg) (ms : List Msg) (he : q.ss s = m :: ms) : w'.cell? ⟨L.mb s (L.hd s), 1, none⟩ = some (.int .u16 m.ssn) ∧ w'.cell? ⟨L.mb s (L.hd s), 3, none⟩ = some (.bool m.un) ∧ w'.cell? ⟨L.mb s (L.hd s), 5, none⟩ = some (.bool m.begun) := by
  obtain ⟨A, c, h1, _⟩ := h.qm.ms s hs 0 m (by rw [he]; rfl)
  exact ⟨cell_of_row w' _ 1 _ 66 (0, 0) h1, cell_of_row w' _ 3 _ 66 (0, 0) h1, cell_of_row w' _ 5 _ 66 (0, 0) h1⟩
theorem Mid.nes (h : Mid w w' base g q L R P r p) (s : Nat) (hs : s < q.n) (m : Msg) (ms : List Msg) (he : q.ss s = m :: ms) : L.mb s (L.hd s) ≠ g ∧ g ≠ L.bn ∧ L.mb s (L.hd s) ≠ L.bn := by
  have h1 := (h.qm.mr s hs 0 (by rw [he]; simp)).1
  rw [Nat.add_zero] at h1
  exact ⟨role_ne (role := L.role) (by rw [h1, h.qm.rg]; simp), role_ne (role := L.role) (by rw [h.qm.rg, h.qm.rn]; simp), role_ne (role := L.role) (by rw [h1, h.qm.rn]; simp)⟩
theorem Mid.eq (h : Mid w w' base g q L R P r p) (e : q = q') : Mid w w' base g q' L R P r p := e ▸ h
theorem Mid.begU (h : Mid w w' base g q L R P r p) (s : Nat) (hs : s < q.n) (m : Msg) (ms : List Msg) (he : q.ss s = m :: ms) (hbg : m.begun = false) (hun : m.un = true) :
    Mid w (((w'.setCell ⟨L.mb s (L.hd s), 5, none⟩ (.bool true)).setCell ⟨g, 6, none⟩ (.int .i64 s)).setCell ⟨g, 5, none⟩ (.int .i64 s)) base g (begQ q s m ms) L R P r p := by
  have h1 := h.setM s hs m ms he 5 (.bool true) (h.qm.setBegun s hs m ms he)
  have h2 := h1.setG 6 (.int .i64 s) (h1.qm.setOpn s)
  have h3 := h2.setG 5 (.int .i64 s) (h2.qm.setLast s)
  refine h3.eq ?_
  simp [begQ, begM, hbg, hun]
theorem Mid.begO (h : Mid w w' base g q L R P r p) (s : Nat) (hs : s < q.n) (m : Msg) (ms : List Msg) (he : q.ss s = m :: ms) (hbg : m.begun = false) (hun : m.un = false) :
    Mid w (((((w'.setCell ⟨L.mb s (L.hd s), 5, none⟩ (.bool true)).setCell ⟨g, 6, none⟩ (.int .i64 s)).setCell ⟨g, 5, none⟩ (.int .i64 s)).setCell ⟨L.mb s (L.hd s), 1, none⟩ (.int .u16 (q.nums s))).setCell ⟨L.bn, s, none⟩ (.int .u16 (IntKind.u16.wrap (q.nums s + 1)))) base g (begQ q s m ms) L R P r p := by
  have h1 := h.setM s hs m ms he 5 (.bool true) (h.qm.setBegun s hs m ms he)
  have h2 := h1.setG 6 (.int .i64 s) (h1.qm.setOpn s)
  have h3 := h2.setG 5 (.int .i64 s) (h2.qm.setLast s)
  have e3 : upd q.ss s ({ m with begun := true } :: ms) s = { m with begun := true } :: ms := upd_same _ _ _
  have h4 := h3.setM s hs { m with begun := true } ms e3 1 (.int .u16 (q.nums s)) (h3.qm.setSsn s hs _ ms e3 (q.nums s))
  have h5 := h4.setN s (.int .u16 (IntKind.u16.wrap (q.nums s + 1))) (h4.qm.setNum s _)
  refine h5.eq ?_
  simp [begQ, begM, hbg, hun, upd_upd]
  rfl
theorem Mid.setP5 (h : Mid w w' base g q L R P r (part' 0 0 0 false none 0 0 bg false)) (s ssn proto : Int) (un : Bool) (A : Option Addr) (n c : Nat) :
    Mid w (((((w'.setCell ⟨P, 0, none⟩ (.int .u16 s)).setCell ⟨P, 1, none⟩ (.int .u16 ssn)).setCell ⟨P, 2, none⟩ (.int .u32 proto)).setCell ⟨P, 3, none⟩ (.bool un)).setCell ⟨P, 4, none⟩ (.slice A n c)) base g q L R P r (part' s ssn proto un A n c bg false) :=
  ((((h.setP 0 (.int .u16 s)).setP 1 (.int .u16 ssn)).setP 2 (.int .u32 proto)).setP 3 (.bool un)).setP 4 (.slice A n c)
theorem Rd.set5 {A : Option Addr} {n : Nat} {xs : List Int} (h : Rd .u8 w A n xs) (hA : ∀ ad, A = some ad → ad.block ≠ P) (v0 v1 v2 v3 v4 : Value) :
    Rd .u8 (((((w.setCell ⟨P, 0, none⟩ v0).setCell ⟨P, 1, none⟩ v1).setCell ⟨P, 2, none⟩ v2).setCell ⟨P, 3, none⟩ v3).setCell ⟨P, 4, none⟩ v4) A n xs :=
  Rd.oth (Rd.oth (Rd.oth (Rd.oth (Rd.oth h (oth_set _ P 0 _) hA) (oth_set _ P 1 _) hA) (oth_set _ P 2 _) hA) (oth_set _ P 3 _) hA) (oth_set _ P 4 _) hA
theorem Rd.drop_ {ad : Addr} {n : Nat} {xs : List Int} (h : Rd .u8 w (some ad) n xs) (d : Nat) (hd : d ≤ n) : Rd .u8 w (some (ad.add d)) (n - d) (xs.drop d) := by
  by_cases hdn : d < n
  · exact Rd.cons_drop h d hdn
  · obtain rfl : d = n := by omega
    exact ⟨by simp [h.1], by have := h.2.1; omega, fun h0 => by omega⟩
theorem begQ_id (q : QS) (s : Nat) (m : Msg) (ms : List Msg) (h : m.begun = true) : begQ q s m ms = q := by unfold begQ; rw [if_pos h]
theorem begM_id (q : QS) (s : Nat) (m : Msg) (h : m.begun = true) : begM q s m = m := by unfold begM; rw [if_pos h]
end
/-- .. and at D bytes -/
structure MidD (w w' : World) (base g : Nat) (q : QS) (L : Lay) (R P : Nat) (r p : Array Value) (D : Nat) (o : Obj) : Prop where
  m : Mid w w' base g q L R P r p
  d : w'.heap[D]? = some o
  rD : L.role D = (9, 0, 0)
  DP : D ≠ P
section
variable {w w' w2 : World} {base g R P D : Nat} {q q' : QS} {L : Lay} {r p : Array Value} {bg : Bool} {o : Obj}
theorem MidD.set (h : MidD w w' base g q L R P r p D o) (b j : Nat) (v : Value) (hr : L.role b ≠ (9, 0, 0)) (hm : Mid w (w'.setCell ⟨b, j, none⟩ v) base g q' L R P r p) : MidD w (w'.setCell ⟨b, j, none⟩ v) base g q' L R P r p D o :=
  ⟨hm, by rw [heap_setCell_other w' ⟨b, j, none⟩ D v (fun e => hr (by rw [← show D = b from e]; exact h.rD))]; exact h.d, h.rD, h.DP⟩
theorem MidD.setP (h : MidD w w' base g q L R P r p D o) (j : Nat) (v : Value) : MidD w (w'.setCell ⟨P, j, none⟩ v) base g q L R P r (p.setIfInBounds j v) D o :=
  ⟨h.m.setP j v, by rw [heap_setCell_other w' ⟨P, j, none⟩ D v (fun e => h.DP e)]; exact h.d, h.rD, h.DP⟩
theorem MidD.setM (h : MidD w w' base g q L R P r p D o) (s : Nat) (hs : s < q.n) (m : Msg) (ms : List Msg) (he : q.ss s = m :: ms) (j : Nat) (v : Value) (hq : QM (w'.setCell ⟨L.mb s (L.hd s), j, none⟩ v) base g q' L) : MidD w (w'.setCell ⟨L.mb s (L.hd s), j, none⟩ v) base g q' L R P r p D o :=
  h.set _ j v (by
    obtain ⟨h1, h2⟩ := h.m.qm.mr s hs 0 (by rw [he]; simp)
    rw [Nat.add_zero] at h1
    rw [h1]; simp) (h.m.setM s hs m ms he j v hq)
theorem MidD.setG (h : MidD w w' base g q L R P r p D o) (j : Nat) (v : Value) (hq : QM (w'.setCell ⟨g, j, none⟩ v) base g q' L) : MidD w (w'.setCell ⟨g, j, none⟩ v) base g q' L R P r p D o :=
  h.set g j v (by rw [h.m.qm.rg]; simp) (h.m.setG j v hq)
theorem MidD.setB (h : MidD w w' base g q L R P r p D o) (s : Nat) (hs : s < q.n) (m : Msg) (ms : List Msg) (he : q.ss s = m :: ms) (v : Value) (hv : SV w' v ((ptrs q L s).drop 1)) (hvo : ∀ b, v.ownBlock = some b → (L.sv s).ownBlock = some b) :
    ∃ L' : Lay, L'.role = L.role ∧ MidD w (w'.setCell ⟨L.bl, s, none⟩ v) base g { q with ss := upd q.ss s ms } L' R P r p D o := by
  have hq := h.m.qm.pop s hs m ms he v hv hvo
  refine ⟨{ L with sv := fun t => if t = s then v else L.sv t, hd := fun t => if t = s then L.hd s + 1 else L.hd t }, rfl, ?_⟩
  have e := h.m.qm.rl
  have e9 : L.role L.bl ≠ (9, 0, 0) := by rw [e]; simp
  have hk := h.m.k.set (j := s) (v := v) h.m.qm.hl e9 (by rw [e]; simp)
  exact { m := { qm := hq, k := ⟨hk.below, fun _ _ => rfl, hk.far⟩, r := by rw [heap_setCell_other w' ⟨L.bl, s, none⟩ R v (fun e => e9 (by rw [← show R = L.bl from e]; exact h.m.rR))]; exact h.m.r, p := by rw [heap_setCell_other w' ⟨L.bl, s, none⟩ P v (fun e => e9 (by rw [← show P = L.bl from e]; exact h.m.rP))]; exact h.m.p, rR := h.m.rR, rP := h.m.rP, nR := h.m.nR, nP := h.m.nP, RP := h.m.RP, hb := h.m.hb }, d := by rw [heap_setCell_other w' ⟨L.bl, s, none⟩ D v (fun e => e9 (by rw [← show D = L.bl from e]; exact h.rD))]; exact h.d, rD := h.rD, DP := h.DP }
theorem MidD.eq (h : MidD w w' base g q L R P r p D o) (e : q = q') : MidD w w' base g q' L R P r p D o := e ▸ h
end
def popQ (q : QS) (s : Nat) (ms : List Msg) (en : Bool) : QS := if en then { q with ss := upd q.ss s ms, opn := -1 } else q
def Fin3 (w wx : World) (base g : Nat) (q : QS) (L : Lay) (s : Nat) (ms : List Msg) (en : Bool) (R P : Nat) (r p : Array Value) (D : Nat) (o : Obj) : Prop :=
  ∃ L' : Lay, L'.role = L.role ∧ MidD w wx base g (popQ q s ms en) L' R P r p D o
theorem MidD.fin {w w' : World} {base g R P D : Nat} {q : QS} {L : Lay} {r p : Array Value} {o : Obj} (h : MidD w w' base g q L R P r p D o) (s : Nat) (hs : s < q.n) (m : Msg) (ms : List Msg) (he : q.ss s = m :: ms) (b off c : Nat) (e1 : L.sv s = .slice (some ⟨b, off, none⟩) (ms.length + 1) c) (v : Value) (hv : v = if c = 1 then .slice (some ⟨b, off, none⟩) 0 0 else .slice (some ⟨b, off + 1, none⟩) ms.length (c - 1)) :
    Fin3 w (((w'.setCell ⟨L.bl, s, none⟩ v).setCell ⟨g, 6, none⟩ (.int .i64 (-1))).drew) base g q L s ms true R P r p D o := by
  have hsv := h.m.qm.sv s hs
  obtain ⟨p0, ps, hp⟩ : ∃ p0 ps, ptrs q L s = p0 :: ps := by
    have hl := ptrs_len q L s
    rw [he] at hl
    cases hx : ptrs q L s with
    | nil => rw [hx] at hl; simp at hl
    | cons a l => exact ⟨a, l, rfl⟩
  have hl2 : ps.length = ms.length := by
    have hl := ptrs_len q L s
    rw [he, hp] at hl
    simpa using hl
  rw [e1, hp] at hsv
  have hpop := hsv.pop
  have hlc : ms.length + 1 ≤ c := by
    rcases hsv with ⟨h1, _⟩ | ⟨b', off', cap, arr, h0, h1, h2, _⟩
    · cases h1
    · injection h0 with e1 e2 e3
      subst e3
      simp only [List.length_cons] at h2
      omega
  have hv2 : v = .slice ((some (⟨b, off, none⟩ : Addr)).map fun x => if c = 1 then x else x.add 1) (ms.length + 1 - 1) (c - 1) := by
    rw [hv]
    by_cases hc : c = 1
    · rw [if_pos hc]
      have : ms.length = 0 := by omega
      simp [hc, this]
    · rw [if_neg hc]
      simp [hc, Addr.add]
  rw [← hv2] at hpop
  have hvo : ∀ k, v.ownBlock = some k → (L.sv s).ownBlock = some k := by
    intro k hk
    rw [e1]
    rw [hv] at hk
    split at hk <;> simpa [Value.ownBlock] using hk
  obtain ⟨L', hr', h1⟩ := h.setB s hs m ms he v (by rw [hp]; exact hpop) hvo
  have h2 := h1.setG 6 (.int .i64 (-1)) (h1.m.qm.setOpn (-1))
  refine ⟨L', hr', h2.m.trB (Below.refl _ _).drew, h2.d, h2.rD, h2.DP⟩
section
variable {w w' : World} {base g R P D : Nat} {q : QS} {L : Lay} {r p : Array Value} {o : Obj}
theorem MidD.setR (h : MidD w w' base g q L R P r p D o) (hDR : D ≠ R) (j : Nat) (v : Value) : MidD w (w'.setCell ⟨R, j, none⟩ v) base g q L R P (r.setIfInBounds j v) p D o :=
  { m := { qm := h.m.qm.frame (by simp) (fun k hk hr => heap_setCell_other w' ⟨R, j, none⟩ k v (fun e => hr (by rw [show k = R from e]; exact h.m.rR))), k := h.m.k.setNew h.m.hb h.m.nR, p := by rw [heap_setCell_other w' ⟨R, j, none⟩ P v (fun e => h.m.RP e.symm)]; exact h.m.p, r := heap_setCell_same w' R j r 36 v h.m.r, rR := h.m.rR, rP := h.m.rP, nR := h.m.nR, nP := h.m.nP, RP := h.m.RP, hb := h.m.hb }, d := by rw [heap_setCell_other w' ⟨R, j, none⟩ D v (fun e => hDR e)]; exact h.d, rD := h.rD, DP := h.DP }
end
/-- Take's answer: a piece with bytes of its own; what it leaves -/
def TakeP (base g : Nat) (q' : QS) (L : Lay) (s ssn proto : Int) (un : Bool) (xs : List Int) (bg en : Bool) (w : World) (e : Ending) (w' : World) : Prop :=
  ∃ L' gd cd, e = .returned (.tuple #[part s ssn proto un (some ⟨gd, 0, none⟩) xs.length cd bg en, .bool true]) ∧ QM w' base g q' L' ∧ Kept w w' base L L' ∧ w'.ownsRow w.heap.size 5 1 (.slice (some ⟨gd, 0, none⟩) xs.length cd) xs.length (nums8 xs) ∧ L'.role gd = (9, 0, 0)
theorem takeQ_en (q : QS) (s : Nat) (m : Msg) (x kk : Nat) (hkk : kk = min x m.data.length) : ((((begM q s m).data.drop kk).length : Int) == 0) = decide (m.data.length ≤ x) := by
  rw [(begM_f q s m).1, List.length_drop]
  by_cases h : m.data.length ≤ x
  · rw [decide_eq_true h]; simp; omega
  · rw [decide_eq_false h]; simp; omega
theorem takeQ_eq (q : QS) (s : Nat) (m : Msg) (ms : List Msg) (x kk : Nat) (hkk : kk = min x m.data.length) :
    { popQ { begQ q s m ms with ss := upd (begQ q s m ms).ss s ({ begM q s m with data := (begM q s m).data.drop kk } :: ms) } s ms (decide (m.data.length ≤ x)) with wai := q.wai - kk, tak := q.tak + kk } = takeQ q s m ms x := by
  unfold popQ takeQ
  by_cases h : m.data.length ≤ x
  · obtain rfl : kk = m.data.length := by omega
    simp only [decide_eq_true h, if_true, if_pos h, upd_upd, begQ_upd]
  · obtain rfl : kk = x := by omega
    simp only [decide_eq_false h, if_neg h, begQ_upd, (begM_f q s m).1, Bool.false_eq_true, if_false]
theorem take_min (x kk : Nat) (l : List Int) (hkk : kk = min x l.length) : l.take kk = l.take x := by
  subst hkk
  rw [Nat.min_def]
  split
  · rfl
  · rw [List.take_length, List.take_of_length_le (by omega)]
def zs7 (bg : Bool) : Array Value := part' 0 0 0 false none 0 0 bg false
set_option maxRecDepth 100000 in
set_option maxHeartbeats 4000000 in
theorem take_t (base g : Nat) (q : QS) (L : Lay) (k : Ok q) (s : Nat) (m : Msg) (ms : List Msg) (x : Nat) (w : World) (h : QM w base g q L) (hL9 : ∀ b, w.heap.size ≤ b → L.role b = (9, 0, 0)) (hbase : base ≤ w.heap.size) (hn : nextF q = s) (hs : s < q.n) (he : q.ss s = m :: ms) (h0 : 1 ≤ x) (h1 : 0 < m.data.length) (h2 : m.data.length ≤ 65536) (hw : (m.data.length : Int) ≤ q.wai) :
    Calls Try.prog 12 #[.pointer (some ⟨g, 0, none⟩), .int .i64 x] w (TakeP base g (takeQ q s m ms x) L s (begM q s m).ssn m.proto m.un (m.data.take x) (!m.begun) (decide (m.data.length ≤ x)) w) := by
  have hu36 := Try.underlying36
  have hu34 := Try.underlying34
  have hu66 := Try.underlying66
  have H := Lib.hid h
  have HK := Lib.hid k
  have hn1 := k.n1
  have hnx := fun W hW => next base g q L k W hW
  rw [hn] at hnx
  have HN := Lib.hid hnx
  have HL9 := Lib.hid hL9
  clear h k hn hnx hL9
  go_enter Try.func12, Try.ntmps12
  go_wp2_with fail
  refine (is_ base g q L _ (H.out.below ((Below.refl _ _).alloc (Nat.le_refl _) _))).mono ?_
  rintro e w' ⟨rfl, rfl⟩
  go_wp2_with fail
  refine (HN.out _ (H.out.below ((Below.refl _ _).alloc (Nat.le_refl _) _))).mono ?_
  rintro e w1 ⟨rfl, hb1⟩
  have hr := (hb1.block w.heap.size (by simp)).trans (heap_alloc_new w _)
  have hB1 : Below w.heap.size w w1 := (by repeat (first | with_reducible exact Below.refl _ _ | with_reducible assumption | with_reducible refine Below.drew ?_ | with_reducible refine below_dN ?_ _ | with_reducible refine Below.setCell ?_ (by first | omega | (simp; done) | (simp; omega)) _ | with_reducible refine below_al ?_ (by first | omega | (simp; done) | (simp; omega)) _ | exact Below.refl _ _ | assumption | refine Below.drew ?_ | refine below_dN ?_ _ | refine Below.setCell ?_ (by first | omega | (simp; done) | (simp; omega)) _ | refine below_al ?_ (by first | omega | (simp; done) | (simp; omega)) _ | refine below_tr (by assumption) ?_ (by first | omega | (simp; done) | (simp; omega)) | fail))
  have hw1 : w.heap.size < w1.heap.size := by have := hb1.size; simp at this; omega
  have H1 := Lib.hid (H.out.below hB1)
  have HRES := Lib.hid hr
  have HB1 := Lib.hid hB1
  have c0 := H1.out.cells.c0
  have r0 := (H1.out.row s hs).1
  obtain ⟨b, off, c, e1, e2, e3, A, dc, m1, m2, m3, m4, m5⟩ := H1.out.head s hs m ms he
  rw [e1] at r0
  obtain ⟨bg, hbg⟩ : ∃ bg, bg = m.begun := ⟨_, rfl⟩
  rw [← hbg] at m1
  have HBG := Lib.hid hbg
  clear hbg
  have d5 := cell_of_row w1 _ 5 _ 66 (0, 0) m1
  have hs0 : (0 : Int) ≤ (s : Int) := by omega
  have hs1 : (s : Int) < (q.n : Int) := by omega
  have hms : (0 : Int) < ((ms.length + 1 : Nat) : Int) := by omega
  have hmb := lt_of_heap m1
  have M1 := Lib.hid m1
  have M2 := Lib.hid m2
  have E1 := Lib.hid e1
  have HE := Lib.hid he
  clear hb1 hr e1 m1 m2 he hB1 m5
  go_upto_if 41 with fail
  refine name_world ?_
  intro wA hwA
  have hMA : Mid w wA base g q L w.heap.size w1.heap.size (zs7 false) (zs7 (!bg)) := by
    subst hwA
    exact { qm := H1.out.below ((Below.refl _ _).alloc (Nat.le_refl _) _), k := Kept.ofB hbase (HB1.out.alloc (Nat.le_of_lt hw1) _), r := by rw [al_old _ _ _ hw1]; exact HRES.out, p := al_new _ _ _ rfl, rR := HL9.out _ (Nat.le_refl _), rP := HL9.out _ (Nat.le_of_lt hw1), nR := Nat.le_refl _, nP := Nat.le_of_lt hw1, RP := by omega, hb := hbase }
  have HMA := Lib.hid hMA
  clear hwA hMA
  go_cut [] (fun wx => Mid w wx base g (begQ q s m ms) L w.heap.size w1.heap.size (zs7 false) (zs7 (!bg)))
  case first =>
    cases bg
    · clear d5
      have hA := HMA.out.qm
      have c1 := hA.cells.c1
      have c5 := hA.cells.c5
      have c6 := hA.cells.c6
      have gf := hA.cells.fr
      have hgl := hA.cells.lt
      have mf := HMA.out.mfr s hs m ms HE.out
      obtain ⟨d1, d3, d5⟩ := HMA.out.mcs s hs m ms HE.out
      obtain ⟨nu1, nu2⟩ := hA.num s hs
      obtain ⟨n1, n2, n3⟩ := HMA.out.nes s hs m ms HE.out
      have n1' := n1.symm
      have n2' := n2.symm
      have n3' := n3.symm
      clear hA
      cases hun : m.un
      · rw [hun] at d3
        go_wp2
        go_meet
        exact HMA.out.begO s hs m ms HE.out HBG.out.symm hun
      · rw [hun] at d3
        go_wp2
        go_meet
        exact HMA.out.begU s hs m ms HE.out HBG.out.symm hun
    · clear d5
      go_wp2
      go_meet
      rw [begQ_id q s m ms HBG.out.symm]
      exact HMA.out
  case rest =>
    clear c0 r0 e2 e3 d5 hmb m3 m4
    obtain ⟨m', hm'⟩ : ∃ m', m' = begM q s m := ⟨_, rfl⟩
    obtain ⟨q', hq'⟩ : ∃ q', q' = begQ q s m ms := ⟨_, rfl⟩
    rw [← hq'] at hcut
    have he' : q'.ss s = m' :: ms := by rw [hq', hm']; exact begQ_ss q s m ms HE.out
    obtain ⟨f1, f2, f3, f4⟩ : q'.n = q.n ∧ q'.wai = q.wai ∧ q'.tak = q.tak ∧ q'.lim = q.lim := by rw [hq']; exact begQ_f q s m ms
    have hd : m'.data = m.data := by rw [hm']; exact (begM_f q s m).1
    have hs' : s < q'.n := by omega
    rw [← hd] at h1 h2 hw
    obtain ⟨A, dc, m1, m2, m3, m4, m5⟩ := hcut.qm.ms s hs' 0 m' (by rw [he']; rfl)
    rw [Nat.add_zero] at m1
    have d0 := cell_of_row wc _ 0 _ 66 (0, 0) m1
    have d1 := cell_of_row wc _ 1 _ 66 (0, 0) m1
    have d2 := cell_of_row wc _ 2 _ 66 (0, 0) m1
    have d3 := cell_of_row wc _ 3 _ 66 (0, 0) m1
    have d4 := cell_of_row wc _ 4 _ 66 (0, 0) m1
    have hmb := lt_of_heap m1
    have hP := lt_of_heap hcut.p
    have hPM : L.mb s (L.hd s) ≠ w1.heap.size := by
      have h1 := (hcut.qm.mr s hs' 0 (by rw [he']; simp)).1
      rw [Nat.add_zero] at h1
      exact role_ne (role := L.role) (by rw [h1, hcut.rP]; simp)
    have hPM' := hPM.symm
    have hcp := hcut.p
    unfold zs7 part' at hcp
    have p0 := cell_of_row wc _ 0 _ 36 (0, 0) hcp
    have p1 := cell_of_row wc _ 1 _ 36 (0, 0) hcp
    have p2 := cell_of_row wc _ 2 _ 36 (0, 0) hcp
    have p3 := cell_of_row wc _ 3 _ 36 (0, 0) hcp
    have p4 := cell_of_row wc _ 4 _ 36 (0, 0) hcp
    have pf := fun j => frozen_of_row wc w1.heap.size j _ 36 hcut.p
    obtain ⟨kk, hkk⟩ : ∃ kk, kk = min x m'.data.length := ⟨_, rfl⟩
    have hmn : mn (x : Int) (m'.data.length : Int) = (kk : Int) := by rw [mn_def]; split <;> omega
    have k0 : 0 < kk := by omega
    have k1 : kk ≤ m'.data.length := by omega
    have hx0 : (0 : Int) ≤ (kk : Int) := by omega
    have hx1 : (kk : Int) ≤ (dc : Int) := by omega
    have HKK := Lib.hid hkk
    have M1 := Lib.hid m1
    have M2 := Lib.hid m2
    have M5 := Lib.hid m5
    have HM' := Lib.hid hm'
    have HQ' := Lib.hid hq'
    have HE' := Lib.hid he'
    have HD := Lib.hid hd
    have HF := Lib.hid (show q'.n = q.n ∧ q'.wai = q.wai ∧ q'.tak = q.tak ∧ q'.lim = q.lim from ⟨f1, f2, f3, f4⟩)
    have HC := Lib.hid hcut
    have hPD : ∀ ad, A = some ad → ad.block ≠ w1.heap.size := fun ad e => role_ne (role := L.role) (by rw [(m5 ad e).1, hcut.rP]; simp)
    have HR4 := Lib.hid (Rd.set5 (P := w1.heap.size) (Rd.take_ m2 kk k1) hPD)
    clear hcut hcp hkk m1 m2 m5 hm' hq' he' hd f1 f2 f3 f4 hPD
    go_wp2_with fail
    refine (clone A kk dc (m'.data.take kk) _ (HR4.out _ _ _ _ _) k0 (by omega)).mono ?_
    rintro e w2 ⟨gd, cd, rfl, hrd, hgd, hcd, hown, hb2⟩
    have hM2 := (HC.out.setP5 s m'.ssn m'.proto m'.un A m'.data.length dc).trB hb2
    have HRD := Lib.hid hrd
    have HOWN := Lib.hid hown
    have HB2 := Lib.hid hb2
    have HM2 := Lib.hid hM2
    have p4' := cell_of_row w2 _ 4 _ 36 (0, 0) (show w2.heap[w1.heap.size]? = some (.cells #[.int .u16 s, .int .u16 m'.ssn, .int .u32 m'.proto, .bool m'.un, .slice A m'.data.length dc, .bool (!bg), .bool false] 36 (0, 0)) from hM2.p)
    have pf' := fun j => frozen_of_row w2 w1.heap.size j _ 36 hM2.p
    have hgl : (List.take kk m'.data).length = kk := by simp; omega
    have hgw : w.heap.size ≤ gd := by have := HC.out.k.below.size; simp at hgd; omega
    have hgP : w1.heap.size < gd := by simp at hgd; omega
    rw [hgl] at hrd hcd hown 
    clear hrd hown hb2 hM2 p0 p1 p2 p3 p4 pf d0 d1 d2 d3 d4 hP hmb hgl hgd
    go_upto_region 16 with fail
    obtain ⟨arr, harr, hcap2, hasz, hatk⟩ : ∃ arr : Array Value, w2.heap[gd]? = some (.cells arr 5 (0, 0)) ∧ cd ≤ maxLen ∧ arr.size = cd ∧ arr.toList.take kk = nums8 (m'.data.take kk) := by
      have hgl : (List.take kk m'.data).length = kk := by simp; omega
      rcases HOWN.out.2 with ⟨e, _⟩ | ⟨g', cap, cur, e, hb, hh, hcap, hm, hsz, htk⟩
      · cases e
      · injection e with e1 e2 e3
        obtain rfl : gd = g' := by injection e1 with e1; injection e1
        subst e3
        exact ⟨cur, hh, hm, by simpa using hsz, by rw [hgl] at htk; simpa using htk⟩
    refine name_world ?_
    intro w3 hw3
    have hM3 : MidD w w3 base g q' L w.heap.size w1.heap.size (zs7 false) (part' s m'.ssn m'.proto m'.un (some ⟨gd, 0, none⟩) kk cd (!bg) false) gd (.cells arr 5 (0, 0)) := by
      rw [hw3]
      exact ⟨HM2.out.setP 4 _, by rw [heap_setCell_other w2 ⟨w1.heap.size, 4, none⟩ gd _ (fun e => by have : gd = w1.heap.size := e; omega)]; exact harr, HL9.out gd hgw, by omega⟩
    have HM3 := Lib.hid hM3
    have HARR := Lib.hid (show cd ≤ maxLen ∧ arr.size = cd ∧ arr.toList.take kk = nums8 (m'.data.take kk) from ⟨hcap2, hasz, hatk⟩)
    have hgR : gd ≠ w.heap.size := by omega
    clear hw3 hM3 harr hcap2 hasz hatk p4' pf'
    go_cut [] (fun wx => MidD w wx base g { q' with ss := upd q'.ss s ({ m' with data := m'.data.drop kk } :: ms) } L w.heap.size w1.heap.size (zs7 false) (part' s m'.ssn m'.proto m'.un (some ⟨gd, 0, none⟩) kk cd (!bg) false) gd (.cells arr 5 (0, 0)))
    case first =>
      obtain ⟨A2, dc2, n1, n2, n3, n4, n5⟩ := HM3.out.m.qm.ms s hs' 0 m' (by rw [HE'.out]; rfl)
      rw [Nat.add_zero] at n1
      obtain ⟨ad, rfl, _⟩ := n2.2.2 (by omega)
      have d4 := cell_of_row w3 _ 4 _ 66 (0, 0) n1
      have mf := HM3.out.m.mfr s hs' m' ms HE'.out
      have hy0 : (kk : Int) ≤ (m'.data.length : Int) := by omega
      have N2 := Lib.hid n2
      have N5 := Lib.hid n5
      clear n1 n2 n4 n5
      by_cases hcap : dc2 = kk
      · subst hcap
        go_wp2
        go_meet
        have hnil : m'.data.drop dc2 = [] := by simp; omega
        rw [hnil]
        exact HM3.out.setM s hs' m' ms HE'.out 4 _ (HM3.out.m.qm.setData s hs' m' ms HE'.out (some ad) 0 [] ⟨rfl, by decide, fun h => absurd h (by decide)⟩ (by decide) (fun e => by cases e) N5.out)
      · have hcap1 : ((dc2 : Int) == (kk : Int)) = false := by simp; omega
        go_wp2
        go_meet
        have hS := HM3.out.m.qm.setData s hs' m' ms HE'.out (some (ad.add kk)) (dc2 - kk) (m'.data.drop kk) (by rw [List.length_drop]; exact Rd.drop_ N2.out kk k1) (by rw [List.length_drop]; omega) (fun e => by cases e) (fun ad' e => by obtain rfl := Option.some.inj e; rw [block_add]; exact N5.out ad rfl)
        rw [List.length_drop] at hS
        exact HM3.out.setM s hs' m' ms HE'.out 4 _ hS
    case rest =>
      obtain ⟨m2, hm2⟩ : ∃ m2 : Msg, m2 = { m' with data := m'.data.drop kk } := ⟨_, rfl⟩
      obtain ⟨q2, hq2⟩ : ∃ q2 : QS, q2 = { q' with ss := upd q'.ss s (m2 :: ms) } := ⟨_, rfl⟩
      rw [← hm2, ← hq2] at hcut
      have he2 : q2.ss s = m2 :: ms := by rw [hq2]; exact upd_same _ _ _
      have hs2 : s < q2.n := by rw [hq2]; exact hs'
      obtain ⟨A2, dc2, n1, n2, n3, n4, n5⟩ := hcut.m.qm.ms s hs2 0 m2 (by rw [he2]; rfl)
      rw [Nat.add_zero] at n1
      have d4 := cell_of_row wc _ 4 _ 66 (0, 0) n1
      obtain ⟨en, hen⟩ : ∃ en : Bool, en = ((m2.data.length : Int) == 0) := ⟨_, rfl⟩
      have hen' := hen.symm
      have HEN := Lib.hid hen
      have HE2 := Lib.hid he2
      have HM2' := Lib.hid hm2
      have HQ2 := Lib.hid hq2
      have HC2 := Lib.hid hcut
      clear hen he2 hm2 hq2 hcut n1 n2 n4 n5
      go_upto_if 119 with fail
      go_cut [] (fun wx => Fin3 w wx base g q2 L s ms en w.heap.size w1.heap.size (zs7 false) (part' s m'.ssn m'.proto m'.un (some ⟨gd, 0, none⟩) kk cd (!bg) en) gd (.cells arr 5 (0, 0)))
      case first =>
        cases en
        · clear hen'
          go_wp2
          go_meet
          exact ⟨L, rfl, HC2.out⟩
        · clear hen' d4
          have hcp := HC2.out.m.p
          unfold part' at hcp
          have p6 := cell_of_row wc _ 6 _ 36 (0, 0) hcp
          have pf := frozen_of_row wc w1.heap.size 6 _ 36 hcp
          clear hcp
          go_wp2_with fail
          refine name_world ?_
          intro w5 hw5
          have hM5 := HC2.out.setP 6 (.bool true)
          rw [← hw5] at hM5
          have HM5 := Lib.hid hM5
          have c0 := hM5.m.qm.cells.c0
          have c6 := hM5.m.qm.cells.c6
          have gf := hM5.m.qm.cells.fr 6
          have ngl : g ≠ L.bl := role_ne (role := L.role) (by rw [hM5.m.qm.rg, hM5.m.qm.rl]; simp)
          have ngl' := ngl.symm
          have hgl := hM5.m.qm.cells.lt
          obtain ⟨r0, rf⟩ := hM5.m.qm.row s hs2
          obtain ⟨b5, off5, c5, e1, e2, e3, _⟩ := hM5.m.qm.head s hs2 m2 ms HE2.out
          rw [e1] at r0
          have hs1 : (s : Int) < (q2.n : Int) := by omega
          have E1 := Lib.hid e1
          have hone : (1 : Int) ≤ (ms.length : Int) + 1 := by omega
          clear hw5 hM5 p6 pf e1
          by_cases hc1 : c5 = 1
          · subst hc1
            go_still_tail 14, (by kernel_rfl)
            change wpList _ _ _ _ _ w5.drew
            go_wp2
            go_meet
            exact HM5.out.fin s hs2 m2 ms HE2.out b5 off5 _ E1.out _ (by simp)
          · go_still_tail 14, (by kernel_rfl)
            change wpList _ _ _ _ _ w5.drew
            go_wp2
            go_meet
            exact HM5.out.fin s hs2 m2 ms HE2.out b5 off5 _ E1.out _ (by simp [hc1])
      case rest =>
        obtain ⟨L', hrole, hD⟩ := hcut
        clear hen' d4
        obtain ⟨q3, hq3⟩ : ∃ q3, q3 = popQ q2 s ms en := ⟨_, rfl⟩
        rw [← hq3] at hD
        have e3 : q3.wai = q.wai ∧ q3.tak = q.tak := by
          have := HF.out
          rw [hq3, HQ2.out]
          unfold popQ
          cases en
          · exact ⟨this.2.1, this.2.2.1⟩
          · exact ⟨this.2.1, this.2.2.1⟩
        have c3 := hD.m.qm.cells.c3
        have c4 := hD.m.qm.cells.c4
        rw [e3.1] at c3
        rw [e3.2] at c4
        have gf3 := hD.m.qm.cells.fr 3
        have gf4 := hD.m.qm.cells.fr 4
        have hgl := hD.m.qm.cells.lt
        have hcp := hD.m.p
        have hcr := hD.m.r
        unfold part' at hcp
        unfold zs7 part' at hcr
        have p0 := cell_of_row wc _ 0 _ 36 (0, 0) hcp
        have p1 := cell_of_row wc _ 1 _ 36 (0, 0) hcp
        have p2 := cell_of_row wc _ 2 _ 36 (0, 0) hcp
        have p3 := cell_of_row wc _ 3 _ 36 (0, 0) hcp
        have p4 := cell_of_row wc _ 4 _ 36 (0, 0) hcp
        have p5 := cell_of_row wc _ 5 _ 36 (0, 0) hcp
        have p6 := cell_of_row wc _ 6 _ 36 (0, 0) hcp
        have r0 := cell_of_row wc _ 0 _ 36 (0, 0) hcr
        have r1 := cell_of_row wc _ 1 _ 36 (0, 0) hcr
        have r2 := cell_of_row wc _ 2 _ 36 (0, 0) hcr
        have r3 := cell_of_row wc _ 3 _ 36 (0, 0) hcr
        have r4 := cell_of_row wc _ 4 _ 36 (0, 0) hcr
        have r5 := cell_of_row wc _ 5 _ 36 (0, 0) hcr
        have r6 := cell_of_row wc _ 6 _ 36 (0, 0) hcr
        have rf := fun j => frozen_of_row wc w.heap.size j _ 36 hcr
        have ng1 : w.heap.size ≠ g := role_ne (role := L'.role) (by rw [hD.m.rR, hD.m.qm.rg]; simp)
        have ng2 : w1.heap.size ≠ g := role_ne (role := L'.role) (by rw [hD.m.rP, hD.m.qm.rg]; simp)
        have ng1' := ng1.symm
        have ng2' := ng2.symm
        have hk := HK.out
        have kw : (kk : Int) ≤ q.wai := by omega
        have kw1 : q.wai ≤ 1073741824 := by have := hk.m1; have := hk.wt; have := hk.t0; omega
        have kt0 := hk.t0
        have kt1 : q.tak ≤ 1073741824 := by have := hk.m1; have := hk.wt; have := hk.w0; omega
        have HQ3 := Lib.hid hq3
        have HD3 := Lib.hid hD
        have HR3 := Lib.hid hrole
        clear hq3 hD hrole e3 hcp hcr hk
        go_wp2
        have hdone := ((((((((HD3.out.setG 3 (.int .i64 (q.wai - kk)) (HD3.out.m.qm.setWai _)).setG 4 (.int .i64 (q.tak + kk)) ((HD3.out.m.qm.setWai _).setTak _)).setR hgR 0 (.int .u16 s)).setR hgR 1 (.int .u16 m'.ssn)).setR hgR 2 (.int .u32 m'.proto)).setR hgR 3 (.bool m'.un)).setR hgR 4 (.slice (some ⟨gd, 0, none⟩) kk cd)).setR hgR 5 (.bool (!bg))).setR hgR 6 (.bool en)
        refine bodyPost_ret (v := .tuple #[part s m'.ssn m'.proto m'.un (some ⟨gd, 0, none⟩) kk cd (!bg) en, .bool true]) (by simp [results, Try.results12, go_sem, part, r0, r1, r2, r3, r4, r5, r6]) rfl ?_
        have hen : en = decide (m.data.length ≤ x) := by
          rw [HEN.out, HM2'.out, HM'.out]
          exact takeQ_en q s m x kk (by rw [HKK.out, HD.out])
        have hkm : kk = min x m.data.length := by rw [HKK.out, HD.out]
        have hlen : (m.data.take x).length = kk := by rw [List.length_take, hkm]
        have htk : m'.data.take kk = m.data.take x := by rw [HD.out]; exact take_min x kk _ hkm
        have hqe := takeQ_eq q s m ms x kk hkm
        rw [← hen, ← HQ'.out, ← HM'.out, ← HM2'.out, ← HQ2.out, ← HQ3.out] at hqe
        obtain ⟨b1, b2, b3, b4⟩ := begM_f q s m
        refine ⟨L', gd, cd, ?_, ?_, ⟨hdone.m.k.below, fun b hb => by rw [HR3.out], by rw [← HR3.out]; exact hdone.m.k.far⟩, ?_, hdone.rD⟩
        · rw [hlen, hen, HBG.out, HM'.out, b3, b4]
        · rw [← hqe]
          exact hdone.m.qm
        · rw [hlen, ← htk]
          refine ⟨by simp [nums8]; omega, .inr ⟨gd, cd, arr, rfl, hgw, hdone.d, hcd, HARR.out.1, by simpa using HARR.out.2.1, by simpa using HARR.out.2.2⟩⟩
