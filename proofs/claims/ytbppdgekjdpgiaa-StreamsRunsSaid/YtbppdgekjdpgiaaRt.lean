/- Layer 16: the reference's Take. -/
import Derived.Test.YtbppdgekjdpgiaaRs
namespace Go.Proofs.Ytbppdgekjdpgiaa.C
open Go.RowKit
set_option linter.unusedVariables false
set_option linter.unusedSimpArgs false
attribute [local go_sem high] max2_mx min2_mn max_two min_two
attribute [local go_sem ↓] Go.wp_at_zero Go.wp_at_succ

section
variable {q : QS} {r : RS} {w : World} {base gr : Nat} {vL : Value} {bN : Nat}
set_option maxRecDepth 100000 in
set_option maxHeartbeats 4000000 in
/-- where it refuses -/
theorem rtake_no (h : RM w base gr r vL bN) (k : RR q r) (x : Int) (hx : x < 1 ∨ nextF q < 0) :
    Calls Try.prog 25 #[.pointer (some ⟨gr, 0, none⟩), .int .i64 x] w fun e w' => e = .returned (.tuple #[.agg #[.int .u16 0, .int .u16 0, .int .u32 0, .bool false, .slice none 0 0, .bool false, .bool false], .bool false]) ∧ Below w.heap.size w w' := by
  have hu36 := Try.underlying36
  have hu34 := Try.underlying34
  have hcall := Lib.hid (fun W hW => rnext_c (h.bel (w' := W) hW) k)
  rcases k.cases with ⟨h1, h2⟩ | ⟨pre, e, post, ms, hL, hpre, h1, h2, h3, h4, h5, _⟩
  · have H2 := Lib.hid h2
    clear h k hx h1 h2
    go_enter Try.func25, Try.ntmps25
    go_wp2_with fail
    refine (hcall.out _ ((Below.refl _ _).alloc (Nat.le_refl _) _)).mono ?_
    rw [H2.out]
    rintro e w' ⟨rfl, m, rfl⟩
    go_wp2
    exact bodyPost_ret (v := .tuple #[.agg #[.int .u16 0, .int .u16 0, .int .u32 0, .bool false, .slice none 0 0, .bool false, .bool false], .bool false]) (by simp [results, Try.results25, go_sem]) rfl ⟨rfl, (by repeat (first | with_reducible exact Below.refl _ _ | with_reducible assumption | with_reducible refine Below.drew ?_ | with_reducible refine below_dN ?_ _ | with_reducible refine Below.setCell ?_ (by first | omega | (simp; done) | (simp; omega)) _ | with_reducible refine below_al ?_ (by first | omega | (simp; done) | (simp; omega)) _ | exact Below.refl _ _ | assumption | refine Below.drew ?_ | refine below_dN ?_ _ | refine Below.setCell ?_ (by first | omega | (simp; done) | (simp; omega)) _ | refine below_al ?_ (by first | omega | (simp; done) | (simp; omega)) _ | refine below_tr (by assumption) ?_ (by first | omega | (simp; done) | (simp; omega)) | fail))⟩
  · have hx1 : x < 1 := by omega
    have H2 := Lib.hid h4
    have hp0 : ¬ (pre.length : Int) < 0 := by omega
    clear h k hx h1 h2 h3 h4 h5 hL hpre
    go_enter Try.func25, Try.ntmps25
    go_wp2_with fail
    refine (hcall.out _ ((Below.refl _ _).alloc (Nat.le_refl _) _)).mono ?_
    rw [H2.out]
    rintro e w' ⟨rfl, m, rfl⟩
    go_wp2
    exact bodyPost_ret (v := .tuple #[.agg #[.int .u16 0, .int .u16 0, .int .u32 0, .bool false, .slice none 0 0, .bool false, .bool false], .bool false]) (by simp [results, Try.results25, go_sem]) rfl ⟨rfl, (by repeat (first | with_reducible exact Below.refl _ _ | with_reducible assumption | with_reducible refine Below.drew ?_ | with_reducible refine below_dN ?_ _ | with_reducible refine Below.setCell ?_ (by first | omega | (simp; done) | (simp; omega)) _ | with_reducible refine below_al ?_ (by first | omega | (simp; done) | (simp; omega)) _ | exact Below.refl _ _ | assumption | refine Below.drew ?_ | refine below_dN ?_ _ | refine Below.setCell ?_ (by first | omega | (simp; done) | (simp; omega)) _ | refine below_al ?_ (by first | omega | (simp; done) | (simp; omega)) _ | refine below_tr (by assumption) ?_ (by first | omega | (simp; done) | (simp; omega)) | fail))⟩
/-- an entry's cells -/
theorem RM.ent {n c gL i : Nat} {e : Ent} (h : RM w base gr r (.slice (some ⟨gL, 0, none⟩) n c) bN) (hget : r.L[i]? = some e) :
    n = r.L.length ∧ w.cell? ⟨gL, i * 6, none⟩ = some (.int .u16 e.st) ∧ w.cell? ⟨gL, i * 6 + 1, none⟩ = some (.int .u16 e.ssn) ∧ w.cell? ⟨gL, i * 6 + 2, none⟩ = some (.int .u32 e.proto) ∧ w.cell? ⟨gL, i * 6 + 3, none⟩ = some (.bool e.un) ∧ w.cell? ⟨gL, i * 6 + 4, none⟩ = some (.slice e.A e.data.length e.c) ∧ w.cell? ⟨gL, i * 6 + 5, none⟩ = some (.int .i64 e.at_) ∧ (∀ j, w.frozen? ⟨gL, j, none⟩ = false) ∧ gL < w.heap.size := by
  obtain ⟨A, c', e1, _, _, hent⟩ := h.form
  injection e1 with e1 e2 e3
  subst e1 e2 e3
  obtain ⟨g', e4, ho, a0, a1, a2, a3, a4, a5⟩ := hent i e hget
  injection e4 with e4
  injection e4 with e4
  subst e4
  exact ⟨rfl, a0, a1, a2, a3, a4, a5, fun j => h.l.frozenAt j, (own_lt h.l gL ho).2⟩
theorem at_bool (n : Nat) : ((n : Int) == 0) = decide (n = 0) := by
  by_cases h : n = 0
  · subst h; rfl
  · rw [decide_eq_false h, beq_eq_false_iff_ne]; omega
/-- its first part: the entry is begun -/
def rbeg1 (r : RS) (pre : List Ent) (e : Ent) (post : List Ent) : RS := { rbeg r e with L := pre ++ entB r e :: post }
theorem DB_set {r : RS} {pre post : List Ent} {e e' : Ent} (hL : r.L = pre ++ e :: post) (hA : e'.A = e.A) {r' : RS} (hL' : r'.L = pre ++ e' :: post) (k : Nat) (hk : DB r' k) : DB r k := by
  obtain ⟨y, hy, ad, e1, e2⟩ := hk
  rw [hL'] at hy
  rcases List.mem_append.1 hy with hy | hy
  · exact ⟨y, by rw [hL]; exact List.mem_append.2 (.inl hy), ad, e1, e2⟩
  · rcases List.mem_cons.1 hy with rfl | hy
    · exact ⟨e, by rw [hL]; simp, ad, by rw [← hA]; exact e1, e2⟩
    · exact ⟨y, by rw [hL]; exact List.mem_append.2 (.inr (List.mem_cons_of_mem _ hy)), ad, e1, e2⟩
/-- Take's answer -/
def RTakeP (base gr bN : Nat) (vL : Value) (r' : RS) (s ssn proto : Int) (un : Bool) (xs : List Int) (bg en : Bool) (w : World) (e : Ending) (w' : World) : Prop :=
  ∃ A c vL', e = .returned (.tuple #[.agg #[.int .u16 s, .int .u16 ssn, .int .u32 proto, .bool un, .slice A xs.length c, .bool bg, .bool en], .bool true]) ∧ RM w' base gr r' vL' bN ∧ Rch w w' base gr bN vL ∧ Rd .u8 w' A xs.length xs ∧ ∀ b, vL'.ownBlock = some b → b < w.heap.size → vL.ownBlock = some b
/-- behind the entry's end, or not -/
def RFin (w wx : World) (base gr bN : Nat) (vL : Value) (r3 : RS) (R P : Nat) (rr pp : Array Value) (B n : Nat) (A : Option Addr) (c : Nat) (xs : List Int) : Prop :=
  ∃ vL', (RM wx base gr r3 vL' bN ∧ (∀ b, RF gr bN vL' r3 b → b ≠ R) ∧ ∀ b, vL'.ownBlock = some b → b < w.heap.size → vL.ownBlock = some b) ∧ Rch w wx base gr bN vL ∧ wx.heap[R]? = some (.cells rr 36 (0, 0)) ∧ wx.heap[P]? = some (.cells pp 36 (0, 0)) ∧ wx.ownsRow B 5 1 (.slice A n c) n (nums8 xs)
theorem rtake_last {w wc : World} {base gr bN : Nat} {vL vL' : Value} {r3 : RS} {R B n c : Nat} {A : Option Addr} {xs : List Int} (h : RM wc base gr r3 vL' bN) (hR : ∀ b, RF gr bN vL' r3 b → b ≠ R) (hch : Rch w wc base gr bN vL) (hbase : base ≤ w.heap.size) (hRw : w.heap.size ≤ R) (ho : wc.ownsRow B 5 1 (.slice A n c) n (nums8 xs)) (hB : R < B) (v0 v1 v2 v3 v4 v5 v6 : Value) :
    RM (((((((wc.setCell ⟨R, 0, none⟩ v0).setCell ⟨R, 1, none⟩ v1).setCell ⟨R, 2, none⟩ v2).setCell ⟨R, 3, none⟩ v3).setCell ⟨R, 4, none⟩ v4).setCell ⟨R, 5, none⟩ v5).setCell ⟨R, 6, none⟩ v6) base gr r3 vL' bN ∧
    Rch w (((((((wc.setCell ⟨R, 0, none⟩ v0).setCell ⟨R, 1, none⟩ v1).setCell ⟨R, 2, none⟩ v2).setCell ⟨R, 3, none⟩ v3).setCell ⟨R, 4, none⟩ v4).setCell ⟨R, 5, none⟩ v5).setCell ⟨R, 6, none⟩ v6) base gr bN vL ∧
    Rd .u8 (((((((wc.setCell ⟨R, 0, none⟩ v0).setCell ⟨R, 1, none⟩ v1).setCell ⟨R, 2, none⟩ v2).setCell ⟨R, 3, none⟩ v3).setCell ⟨R, 4, none⟩ v4).setCell ⟨R, 5, none⟩ v5).setCell ⟨R, 6, none⟩ v6) A n xs := by
  have one : ∀ (W : World) (j : Nat) (v : Value), RM W base gr r3 vL' bN → RM (W.setCell ⟨R, j, none⟩ v) base gr r3 vL' bN := fun W j v hW => hW.keep (by simp) fun b hb => heap_setCell_other W ⟨R, j, none⟩ b v (fun e => hR b hb e)
  have two : ∀ (W : World) (j : Nat) (v : Value), W.ownsRow B 5 1 (.slice A n c) n (nums8 xs) → (W.setCell ⟨R, j, none⟩ v).ownsRow B 5 1 (.slice A n c) n (nums8 xs) := fun W j v hW => own_below hW fun b hb => heap_setCell_other W ⟨R, j, none⟩ b v (fun e => by have e : b = R := e; have := (own_lt hW b hb).1; omega)
  exact ⟨one _ _ _ (one _ _ _ (one _ _ _ (one _ _ _ (one _ _ _ (one _ _ _ (one _ _ _ h)))))), ((((((hch.new hbase hRw).new hbase hRw).new hbase hRw).new hbase hRw).new hbase hRw).new hbase hRw).new hbase hRw, own_rd (two _ _ _ (two _ _ _ (two _ _ _ (two _ _ _ (two _ _ _ (two _ _ _ (two _ _ _ ho)))))))⟩
def rend (r : RS) (pre post : List Ent) (en : Bool) : RS := if en then { r with L := pre ++ post } else r
theorem rtake_en (e : Ent) (x kk : Nat) (hkk : kk = min x (rest e)) (hat : e.at_ < e.data.length) : ((e.at_ : Int) + (kk : Int) == (e.data.length : Int)) = decide (rest e ≤ x) := by
  have hr : rest e = e.data.length - e.at_ := rfl
  by_cases h : rest e ≤ x
  · rw [decide_eq_true h, beq_iff_eq]; omega
  · rw [decide_eq_false h, beq_eq_false_iff_ne]; omega
theorem rtake_eq (r : RS) (pre post : List Ent) (e : Ent) (x kk : Nat) (hkk : kk = min x (rest e)) :
    rend { rbeg1 r pre e post with L := pre ++ { entB r e with at_ := e.at_ + kk } :: post, out := r.out + kk } pre post (decide (rest e ≤ x)) = rtake r pre e post x := by
  unfold rend rtake rbeg1
  by_cases h : rest e ≤ x
  · obtain rfl : kk = rest e := by omega
    rw [decide_eq_true h, if_pos rfl, if_pos h]
  · obtain rfl : kk = x := by omega
    rw [decide_eq_false h, if_neg (by simp), if_neg h]
def pt7 (s ssn proto : Int) (un : Bool) (A : Option Addr) (n c : Nat) (bg en : Bool) : Array Value := #[.int .u16 s, .int .u16 ssn, .int .u32 proto, .bool un, .slice A n c, .bool bg, .bool en]
set_option maxRecDepth 100000 in
set_option maxHeartbeats 8000000 in
theorem rtake_ok (h : RM w base gr r vL bN) (k : RR q r) (pre post : List Ent) (e : Ent) (ms : List Msg) (hL : r.L = pre ++ e :: post) (hnx : rnext r = ((pre.length : Nat) : Int)) (hget : r.L[pre.length]? = some e) (x : Nat) (hx1 : 1 ≤ x) :
    Calls Try.prog 25 #[.pointer (some ⟨gr, 0, none⟩), .int .i64 x] w (RTakeP base gr bN vL (rtake r pre e post x) e.st (entB r e).ssn e.proto e.un ((e.data.drop e.at_).take x) (decide (e.at_ = 0)) (decide (rest e ≤ x)) w) := by
  have hu36 := Try.underlying36
  have hu34 := Try.underlying34
  have hb := k.bounds
  obtain ⟨hst, hat⟩ := k.st e (List.mem_of_getElem? hget)
  have hd := h.d e (List.mem_of_getElem? hget)
  have hqn := k.i.ok.n1
  have hcall := Lib.hid (fun W hW => rnext_c (h.bel (w' := W) hW) k)
  have hil := (List.getElem?_eq_some_iff.1 hget).1
  obtain ⟨A7, c7, rfl, hlc, _, hent⟩ := h.form
  obtain ⟨gL, rfl, _⟩ := hent _ e hget
  have H := Lib.hid h
  have HK := Lib.hid k
  have HL := Lib.hid hL
  have HNX := Lib.hid hnx
  have HGET := Lib.hid hget
  have HD := Lib.hid hd
  have HB := Lib.hid hb
  have hl1 := hb.1
  have hp0 : (0 : Int) ≤ (pre.length : Int) := by omega
  have hp1 : (pre.length : Int) < (r.L.length : Int) := by omega
  have hs0 : (0 : Int) ≤ (e.st : Int) := by omega
  have hs1 : (e.st : Int) ≤ 1024 := by omega
  have hsn : e.st < r.n := by have := k.n; omega
  have hsn1 : (e.st : Int) < (r.n : Int) := by omega
  have hds := hd.2.1
  have hd6 := hd.2.2.2
  have HLT := Lib.hid h.lt
  have hbase := h.hb
  clear h k hb hL hnx hget hent hd
  go_enter Try.func25, Try.ntmps25
  go_wp2_with fail
  refine (hcall.out _ ((Below.refl _ _).alloc (Nat.le_refl _) _)).mono ?_
  rw [HNX.out]
  rintro e' w' ⟨rfl, m, rfl⟩
  go_upto_region 4 with fail
  refine name_world ?_
  intro w1 hw1
  have hB1 : Below w.heap.size w w1 := by rw [hw1]; exact (by repeat (first | with_reducible exact Below.refl _ _ | with_reducible assumption | with_reducible refine Below.drew ?_ | with_reducible refine below_dN ?_ _ | with_reducible refine Below.setCell ?_ (by first | omega | (simp; done) | (simp; omega)) _ | with_reducible refine below_al ?_ (by first | omega | (simp; done) | (simp; omega)) _ | exact Below.refl _ _ | assumption | refine Below.drew ?_ | refine below_dN ?_ _ | refine Below.setCell ?_ (by first | omega | (simp; done) | (simp; omega)) _ | refine below_al ?_ (by first | omega | (simp; done) | (simp; omega)) _ | refine below_tr (by assumption) ?_ (by first | omega | (simp; done) | (simp; omega)) | fail))
  have hR1 : w1.heap[w.heap.size]? = some (.cells (pt7 0 0 0 false none 0 0 false false) 36 (0, 0)) := by rw [hw1]; exact heap_alloc_new w _
  have hz1 : w1.heap.size = w.heap.size + 1 := by rw [hw1]; simp
  have HM1 := Lib.hid (H.out.bel hB1)
  have HB1 := Lib.hid hB1
  have HR1 := Lib.hid hR1
  have HZ1 := Lib.hid hz1
  have hz1' : w.heap.size < w1.heap.size := by omega
  clear hw1 hB1 hR1 hz1
  obtain ⟨_, a0, a1, a2, a3, a4, a5, af, hgL⟩ := HM1.out.ent HGET.out
  have c2 := HM1.out.cells.c2
  have hgr := HM1.out.cells.lt
  go_upto_region 6 with fail
  refine name_world ?_
  intro w2 hw2
  have hT2 : RT w w2 base gr r (.slice (some ⟨gL, 0, none⟩) r.L.length c7) bN w.heap.size w1.heap.size (pt7 0 0 0 false none 0 0 false false) (pt7 e.st e.ssn e.proto e.un e.A e.data.length e.c false false) := by
    rw [hw2]
    have hal : Below w1.heap.size w1 (w1.alloc (.cells (pt7 e.st e.ssn e.proto e.un e.A e.data.length e.c false false) 36)) := (Below.refl _ _).alloc (Nat.le_refl _) _
    exact { rm := HM1.out.bel hal, ch := (Rch.bel hbase HB1.out).bel2 hbase hal, rc := (al_old _ _ _ hz1').trans HR1.out, p := heap_alloc_new _ _, nR := Nat.le_refl _, nP := Nat.le_of_lt hz1', RP := by omega, old := fun b hb => (HLT.out b hb).2, hb := hbase }
  have HT2 := Lib.hid hT2
  clear hw2 hT2 a0 a1 a2 a3 a4 a5 af hgL c2 hgr
  obtain ⟨_, a0, a1, a2, a3, a4, a5, af, hgL⟩ := HT2.out.rm.ent HGET.out
  have c2 := HT2.out.rm.cells.c2
  have hgr := HT2.out.rm.cells.lt
  have hcp := HT2.out.p
  unfold pt7 at hcp
  have p5 := cell_of_row w2 _ 5 _ 36 (0, 0) hcp
  have pf := fun j => frozen_of_row w2 w1.heap.size j _ 36 hcp
  obtain ⟨bg, hbg⟩ : ∃ bg, bg = ((e.at_ : Int) == 0) := ⟨_, rfl⟩
  have hbg' := hbg.symm
  have HBG := Lib.hid (show bg = decide (e.at_ = 0) by rw [hbg]; exact at_bool _)
  clear hbg hcp
  go_upto_if 46 with fail
  refine name_world ?_
  intro w3 hw3
  have hT3 : RT w w3 base gr r (.slice (some ⟨gL, 0, none⟩) r.L.length c7) bN w.heap.size w1.heap.size (pt7 0 0 0 false none 0 0 false false) (pt7 e.st e.ssn e.proto e.un e.A e.data.length e.c bg false) := by
    rw [hw3]
    exact HT2.out.setP 5 (.bool bg)
  have HT3 := Lib.hid hT3
  clear hw3 hT3 a0 a1 a2 a3 a4 a5 af hgL c2 hgr p5 pf hbg'
  go_cut [] (fun wx => RT w wx base gr (rbeg1 r pre e post) (.slice (some ⟨gL, 0, none⟩) r.L.length c7) bN w.heap.size w1.heap.size (pt7 0 0 0 false none 0 0 false false) (pt7 e.st e.ssn e.proto e.un e.A e.data.length e.c bg false))
  case first =>
    cases bg with
    | false =>
      have hne : e.at_ ≠ 0 := by have := HBG.out; simpa using this.symm
      have HE := Lib.hid (show r = rbeg1 r pre e post by
        obtain ⟨n, lim, L, ssn, last, out⟩ := r
        have := HL.out
        simp only at this
        simp [rbeg1, rbeg, entB, hne, this])
      go_wp2
      go_meet
      exact HT3.out.eq HE.out
    | true =>
      have HZ0 := Lib.hid (show e.at_ = 0 by have := HBG.out; simpa using this.symm)
      have hcp := HT3.out.p
      unfold pt7 at hcp
      have p3 := cell_of_row w3 _ 3 _ 36 (0, 0) hcp
      have gc := HT3.out.rm.cells.c4
      have gf := HT3.out.rm.cells.fr
      have hgr := HT3.out.rm.cells.lt
      have ngP : gr ≠ w1.heap.size := by have := (HLT.out gr (.inl rfl)).2; omega
      have ngP' := ngP.symm
      clear hcp
      cases hun : e.un with
      | true =>
        rw [hun] at p3
        have HE := Lib.hid (show ({ r with last := (e.st : Int) } : RS) = rbeg1 r pre e post by
          obtain ⟨n, lim, L, ssn, last, out⟩ := r
          have := HL.out
          simp only at this
          simp [rbeg1, rbeg, entB, HZ0.out, this, hun])
        have HU := Lib.hid hun
        clear hun
        go_wp2
        go_meet
        exact (HT3.out.own gr 4 (.int .i64 e.st) (.inl rfl) (HT3.out.rm.setG { r with last := (e.st : Int) } rfl rfl rfl 4 _ rfl) (fun k h => h)).eq HE.out
      | false =>
        rw [hun] at p3
        have HU := Lib.hid hun
        clear hun
        go_upto_region 11 with fail
        refine name_world ?_
        intro w4 hw4
        have hT4 := HT3.out.own gr 4 (.int .i64 e.st) (.inl rfl) (HT3.out.rm.setG { r with last := (e.st : Int) } rfl rfl rfl 4 _ rfl) (fun k h => h)
        rw [← hw4] at hT4
        have HT4 := Lib.hid hT4
        clear hw4 hT4 p3 gc gf hgr
        obtain ⟨_, a0, a1, a2, a3, a4, a5, af, hgL⟩ := HT4.out.rm.ent (e := e) HGET.out
        have c2 := HT4.out.rm.cells.c2
        have c3 := HT4.out.rm.cells.c3
        have hgr := HT4.out.rm.cells.lt
        obtain ⟨arr, s1, s2, s3⟩ := HT4.out.rm.s
        have n1 : w4.cell? ⟨bN, e.st, none⟩ = some (.int .u16 (r.ssn e.st)) := by rw [cell_of_row w4 bN e.st arr 30 (0, 0) s1]; exact s3 e.st hsn
        have nf := frozen_of_row w4 bN e.st arr 30 s1
        clear s1 s2 s3
        go_still_tail 15, (by kernel_rfl)
        change wpList _ _ _ _ _ w4.drew
        go_upto_region 12 with fail
        refine name_world ?_
        intro w5 hw5
        have hT5 := (HT4.out.bel (Below.refl _ _).drew).own gL (pre.length * 6 + 1) (.int .u16 (r.ssn e.st)) (.inr (.inr rfl)) ((HT4.out.bel (Below.refl _ _).drew).rm.setE (e := e) (e' := { e with ssn := r.ssn e.st }) (pre := pre) (post := post) HL.out gL _ _ rfl 1 (.int .u16 (r.ssn e.st)) (by decide) rfl rfl rfl rfl) (fun k hk => by
          obtain ⟨y, hy, ad, e1, e2⟩ := hk
          show ∃ y ∈ r.L, _
          rw [HL.out]
          rcases List.mem_append.1 hy with hy | hy
          · exact ⟨y, List.mem_append.2 (.inl hy), ad, e1, e2⟩
          · rcases List.mem_cons.1 hy with rfl | hy
            · exact ⟨e, by simp, ad, e1, e2⟩
            · exact ⟨y, List.mem_append.2 (.inr (List.mem_cons_of_mem _ hy)), ad, e1, e2⟩)
        have hw5' : w5 = w4.drew.setCell ⟨gL, pre.length * 6 + 1, none⟩ (.int .u16 (r.ssn e.st)) := hw5
        rw [← hw5'] at hT5
        have HT5 := Lib.hid hT5
        clear hw5 hw5' hT5 a0 a1 a2 a3 a4 a5 af hgL c2 c3 hgr n1 nf
        have c3 := HT5.out.rm.cells.c3
        have hgr := HT5.out.rm.cells.lt
        obtain ⟨arr, s1, s2, s3⟩ := HT5.out.rm.s
        have n1 : w5.cell? ⟨bN, e.st, none⟩ = some (.int .u16 (r.ssn e.st)) := by rw [cell_of_row w5 bN e.st arr 30 (0, 0) s1]; exact s3 e.st hsn
        have nf := frozen_of_row w5 bN e.st arr 30 s1
        clear s1 s2 s3
        go_still_tail 14, (by kernel_rfl)
        change wpList _ _ _ _ _ w5.drew
        go_wp2
        go_meet
        have hfin := (HT5.out.bel (Below.refl _ _).drew).own bN e.st (.int .u16 (IntKind.u16.wrap (r.ssn e.st + 1))) (.inr (.inl rfl)) ((HT5.out.bel (Below.refl _ _).drew).rm.setS e.st _) (fun k h => h)
        refine hfin.eq ?_
        obtain ⟨n, lim, L, ssn, last, out⟩ := r
        simp [rbeg1, rbeg, entB, HZ0.out, HU.out]
  case rest =>
    obtain ⟨b1, b2, b3, b4, b5, b6, b7⟩ := entB_f r e
    have hL1 : (rbeg1 r pre e post).L = pre ++ entB r e :: post := rfl
    have hlen1 : (rbeg1 r pre e post).L.length = r.L.length := by rw [hL1, HL.out]; simp
    obtain ⟨e1, he1⟩ : ∃ e1, e1 = entB r e := ⟨_, rfl⟩
    obtain ⟨r1, hr1⟩ : ∃ r1, r1 = rbeg1 r pre e post := ⟨_, rfl⟩
    rw [← he1] at b1 b2 b3 b4 b5 b6 b7
    rw [← hr1] at hcut hL1 hlen1
    rw [← he1] at hL1
    have hget1 : r1.L[pre.length]? = some e1 := by rw [hL1]; simp
    have hout1 : r1.out = r.out := by rw [hr1]; rfl
    obtain ⟨ad, hA, _⟩ := HD.out.1.2.2 (by omega)
    have HDD := Lib.hid (show Rd .u8 w (some ad) e.data.length e.data by rw [← hA]; exact HD.out.1)
    rw [← hlen1] at hcut
    have HT4 := Lib.hid hcut
    have HB1' := Lib.hid (show e1.st = e.st ∧ e1.proto = e.proto ∧ e1.un = e.un ∧ e1.data = e.data ∧ e1.at_ = e.at_ ∧ e1.A = e.A ∧ e1.c = e.c from ⟨b1, b2, b3, b4, b5, b6, b7⟩)
    have HL1 := Lib.hid hL1
    have HG1 := Lib.hid hget1
    have HLN := Lib.hid hlen1
    have HE1 := Lib.hid he1
    have HRR1 := Lib.hid hr1
    have HO1 := Lib.hid hout1
    have HA := Lib.hid hA
    rw [← hlen1] at hp1
    have hl1' : r1.L.length ≤ 1073741824 := by omega
    clear hcut hL1 hget1 he1 hr1 hout1 hlen1 hA b1 b2 b3 b4 b5 b6 b7 hl1 hil HT2 HT3
    have hE := HT4.out.rm.ent HG1.out
    rw [HB1'.out.2.2.2.1, HB1'.out.2.2.2.2.1, HB1'.out.2.2.2.2.2.1, HB1'.out.2.2.2.2.2.2, HA.out] at hE
    obtain ⟨_, a0, a1, a2, a3, a4, a5, af, hgL⟩ := hE
    have c2 := HT4.out.rm.cells.c2
    have hgr := HT4.out.rm.cells.lt
    have hcp := HT4.out.p
    unfold pt7 at hcp
    have p1 := cell_of_row wc _ 1 _ 36 (0, 0) hcp
    have pf := fun j => frozen_of_row wc w1.heap.size j _ 36 hcp
    have hgrw := (HLT.out gr (.inl rfl)).2
    have hgLw := (HLT.out gL (.inr (.inr (.inl rfl)))).2
    have ngP : gr ≠ w1.heap.size := by omega
    have nLP : gL ≠ w1.heap.size := by omega
    have ngP' := ngP.symm
    have nLP' := nLP.symm
    have nLg : gL ≠ gr := fun e => HT4.out.rm.n1 (by rw [← e]; rfl)
    have nLg' := nLg.symm
    obtain ⟨kk, hkk⟩ : ∃ kk, kk = min x (rest e) := ⟨_, rfl⟩
    have hre : rest e = e.data.length - e.at_ := rfl
    have hmn : mn (x : Int) ((e.data.length : Int) - e.at_) = (kk : Int) := by rw [mn_def]; split <;> omega
    have k0 : 0 < kk := by omega
    have k1 : e.at_ + kk ≤ e.data.length := by omega
    have hat0 : (0 : Int) ≤ (e.at_ : Int) := by omega
    have hat1 : (e.at_ : Int) < (e.data.length : Int) := by omega
    have hd6' : (e.data.length : Int) ≤ 65536 := by omega
    have HKK := Lib.hid hkk
    clear hcp hkk hre
    go_upto_region 15 with fail
    refine name_world ?_
    intro w5 hw5
    have hT5 := HT4.out.setP 1 (.int .u16 e1.ssn)
    rw [← hw5] at hT5
    have HT5 := Lib.hid hT5
    clear hw5 hT5 a0 a1 a2 a3 a4 a5 af hgL c2 hgr p1 pf hmn
    obtain ⟨xs, hxs⟩ : ∃ xs, xs = (e.data.drop e.at_).take kk := ⟨_, rfl⟩
    have hE := HT5.out.rm.ent HG1.out
    rw [HB1'.out.2.2.2.1, HB1'.out.2.2.2.2.1, HB1'.out.2.2.2.2.2.1, HB1'.out.2.2.2.2.2.2, HA.out] at hE
    obtain ⟨_, a0, a1, a2, a3, a4, a5, af, hgL⟩ := hE
    have c2 := HT5.out.rm.cells.c2
    have hgr := HT5.out.rm.cells.lt
    have hxl : xs.length = kk := by rw [hxs, List.length_take, List.length_drop]; omega
    have hrx : Rd .u8 w5 (some (ad.add e.at_)) kk xs := by
      rw [hxs]
      have h1 : Rd .u8 w5 (some ad) e.data.length e.data := by
        have := (HT5.out.rm.d e1 (List.mem_of_getElem? HG1.out)).1
        rwa [HB1'.out.2.2.2.1, HB1'.out.2.2.2.2.2.1, HA.out] at this
      exact Rd.take_ (Rd.drop_ h1 e.at_ (by omega)) kk (by omega)
    have HS5 := Lib.hid (show Src (w5.alloc (.cells #[] 5)) (some (ad.add e.at_)) (e.at_ + kk - e.at_) 1 (nums8 xs) by rw [Nat.add_sub_cancel_left]; exact ((Rd.toSrc hrx).elim id fun h => absurd h (by omega)).keep fun b hb => al_old _ _ _ hb)
    have HO5 := Lib.hid (show (w5.alloc (.cells #[] 5)).ownsRow w5.heap.size 5 1 (.slice (some ⟨w5.heap.size, 0, none⟩) 0 0) 0 (nums8 []) from own8_empty w5 w5.heap.size 5 (Nat.le_refl _))
    have HG5 := Lib.hid (show w5.heap.size ≤ (w5.alloc (.cells #[] 5)).heap.size by simp)
    have hw5P : w1.heap.size < w5.heap.size := lt_of_heap HT5.out.p
    have HXS := Lib.hid hxs
    have HXL := Lib.hid hxl
    obtain ⟨i5, hi5, hz50, hz51, hz52⟩ := info_parts info5
    have HI5 := Lib.hid (show _ ∧ _ ∧ _ ∧ _ from ⟨hi5, hz50, hz51, hz52⟩)
    have hcne : ¬ e.c = e.at_ := by omega
    have hsum0 : (0 : Int) ≤ (e.at_ : Int) + (kk : Int) := by omega
    have hsum1 : (e.at_ : Int) + (kk : Int) ≤ (e.c : Int) := by omega
    have hsum2 : (e.at_ : Int) + (kk : Int) ≤ 65536 := by omega
    clear hxs hrx hxl hi5 hz50 hz51 hz52
    go_upto_region 16 with (at_builtin; go_loud (refine wpList_append_src rfl _ _ _ rfl w5.heap.size 5 i5 _ 1 1 Try.underlying32 HI5.out.1 HI5.out.2.1 HI5.out.2.2.1 HI5.out.2.2.2 rfl (by omega) _ 0 [] rfl HO5.out _ _ _ (nums8 xs) rfl HS5.out (fun e => by cases e) (nums8_one xs) (by simp only [maxLen]; omega) (by omega) HG5.out ?_); intro v1 w6 hown6 hg6 hv6; rw [List.nil_append, Nat.zero_add, Nat.add_sub_cancel_left] at hown6; have hB6 : Below w5.heap.size w5 w6 := below_app (W := w5.alloc (.cells #[] 5)) (by repeat (first | with_reducible exact Below.refl _ _ | with_reducible assumption | with_reducible refine Below.drew ?_ | with_reducible refine below_dN ?_ _ | with_reducible refine Below.setCell ?_ (by first | omega | (simp; done) | (simp; omega)) _ | with_reducible refine below_al ?_ (by first | omega | (simp; done) | (simp; omega)) _ | exact Below.refl _ _ | assumption | refine Below.drew ?_ | refine below_dN ?_ _ | refine Below.setCell ?_ (by first | omega | (simp; done) | (simp; omega)) _ | refine below_al ?_ (by first | omega | (simp; done) | (simp; omega)) _ | refine below_tr (by assumption) ?_ (by first | omega | (simp; done) | (simp; omega)) | fail)) (by simp) (own8_empty w5 w5.heap.size 5 (Nat.le_refl _)) hg6; obtain ⟨A1, c1, rfl, _⟩ := own_form hown6; have hT6 := HT5.out.bel hB6; have p4 := cell_of_row w6 _ 4 _ 36 (0, 0) hT6.p; have pf := fun j => frozen_of_row w6 w1.heap.size j _ 36 hT6.p; have HT6 := Lib.hid hT6; have HO6 := Lib.hid hown6; clear hown6 hg6 hv6 hB6 hT6)
    refine name_world ?_
    intro w7 hw7
    have hT7 := HT6.out.setP 4 (.slice A1 kk c1)
    rw [← hw7] at hT7
    have ho7 : w7.ownsRow w5.heap.size 5 1 (.slice A1 kk c1) kk (nums8 xs) := by
      rw [hw7]
      exact own_below HO6.out fun b hb => heap_setCell_other w6 ⟨w1.heap.size, 4, none⟩ b _ (fun e => by have e : b = w1.heap.size := e; have := (own_lt HO6.out b hb).1; omega)
    have HT7 := Lib.hid hT7
    have HO7 := Lib.hid ho7
    clear hw7 hT7 ho7 a0 a1 a2 a3 a4 a5 af hgL c2 hgr p4 pf hsum1 hcne
    have hE := HT7.out.rm.ent HG1.out
    rw [HB1'.out.2.2.2.1, HB1'.out.2.2.2.2.1, HB1'.out.2.2.2.2.2.1, HB1'.out.2.2.2.2.2.2, HA.out] at hE
    obtain ⟨_, a0, a1, a2, a3, a4, a5, af, hgL⟩ := hE
    have c2 := HT7.out.rm.cells.c2
    have c5 := HT7.out.rm.cells.c5
    rw [HO1.out] at c5
    have gf := HT7.out.rm.cells.fr
    have hgr := HT7.out.rm.cells.lt
    have hcp := HT7.out.p
    have p6 : w7.cell? ⟨w1.heap.size, 6, none⟩ = some (.bool false) := cell_of_row w7 _ 6 _ 36 (0, 0) hcp
    have pf := fun j => frozen_of_row w7 w1.heap.size j _ 36 hcp
    obtain ⟨en, hen⟩ : ∃ en, en = ((e.at_ : Int) + (kk : Int) == (e.data.length : Int)) := ⟨_, rfl⟩
    have hen' := hen.symm
    have HEN := Lib.hid hen
    have hro0 := HB.out.2.2.1
    have hro1 : r.out ≤ 1073741824 := by have := HB.out.2.1; have := HB.out.2.2.2.1; omega
    have hkk6 : (kk : Int) ≤ 65536 := by omega
    clear hen hcp
    go_upto_if 162 with fail
    refine name_world ?_
    intro w8 hw8
    have hTa := HT7.out.setP 6 (.bool en)
    have hTb := hTa.own gL (pre.length * 6 + 5) (.int .i64 ((e.at_ : Int) + (kk : Int))) (.inr (.inr rfl)) (hTa.rm.setE (e := e1) (e' := { e1 with at_ := e.at_ + kk }) (pre := pre) (post := post) HL1.out gL _ _ rfl 5 _ (by decide) (by rw [show ((e.at_ : Int) + (kk : Int)) = ((e.at_ + kk : Nat) : Int) from by omega]; rfl) rfl rfl rfl) (DB_set (e := e1) (e' := { e1 with at_ := e.at_ + kk }) HL1.out rfl rfl)
    have hTc := hTb.own gr 5 (.int .i64 (r.out + (kk : Int))) (.inl rfl) (hTb.rm.setG { r1 with L := pre ++ { e1 with at_ := e.at_ + kk } :: post, out := r.out + (kk : Int) } rfl rfl rfl 5 _ rfl) (fun k h => h)
    rw [← hw8] at hTc
    obtain ⟨r8, hr8⟩ : ∃ r8 : RS, r8 = { r1 with L := pre ++ { e1 with at_ := e.at_ + kk } :: post, out := r.out + (kk : Int) } := ⟨_, rfl⟩
    rw [← hr8] at hTc
    have hL8 : r8.L = pre ++ { e1 with at_ := e.at_ + kk } :: post := by rw [hr8]
    have ho8 : w8.ownsRow w5.heap.size 5 1 (.slice A1 kk c1) kk (nums8 xs) := by
      rw [hw8]
      refine own_below HO7.out fun b hb => ?_
      have hb5 := (own_lt HO7.out b hb).1
      rw [heap_setCell_other _ ⟨gr, 5, none⟩ b _ (fun e => by have e : b = gr := e; omega), heap_setCell_other _ ⟨gL, pre.length * 6 + 5, none⟩ b _ (fun e => by have e : b = gL := e; omega), heap_setCell_other _ ⟨w1.heap.size, 6, none⟩ b _ (fun e => by have e : b = w1.heap.size := e; omega)]
    have hlen8 : r8.L.length = r1.L.length := by rw [hL8, HL1.out]; simp
    rw [← hlen8] at hTc hp1 hl1'
    have HT8 := Lib.hid hTc
    have HO8 := Lib.hid ho8
    have HR8 := Lib.hid hr8
    have HL8 := Lib.hid hL8
    clear hw8 hTa hTb hTc hr8 hL8 ho8 hlen8 a0 a1 a2 a3 a4 a5 af hgL c2 c5 gf hgr p6 pf hen'
    go_cut [] (fun wx => RFin w wx base gr bN (.slice (some ⟨gL, 0, none⟩) r8.L.length c7) (rend r8 pre post en) w.heap.size w1.heap.size (pt7 0 0 0 false none 0 0 false false) (pt7 e.st e1.ssn e.proto e.un A1 kk c1 bg en) w5.heap.size kk A1 c1 xs)
    case first =>
      cases en with
      | false =>
        go_wp2
        go_meet
        exact ⟨_, ⟨HT8.out.rm, (fun b hb => Nat.ne_of_lt (HT8.out.old b hb)), fun b hb _ => hb⟩, HT8.out.ch, HT8.out.rc, HT8.out.p, HO8.out⟩
      | true =>
        have c2 := HT8.out.rm.cells.c2
        have hgr := HT8.out.rm.cells.lt
        obtain ⟨i7, hi7, hz70, hz71, hz72⟩ := info_parts info77
        have HI7 := Lib.hid (show _ ∧ _ ∧ _ ∧ _ from ⟨hi7, hz70, hz71, hz72⟩)
        have hl := HT8.out.rm.l
        have hflat : r8.L.flatMap ec = pre.flatMap ec ++ (r8.L.drop pre.length).flatMap ec := by rw [← List.flatMap_append]; congr 1; rw [HL8.out]; simp
        have htk : r8.L.take pre.length = pre := by rw [HL8.out]; simp
        have hdp : r8.L.drop (pre.length + 1) = post := by rw [HL8.out]; simp
        have hln : r8.L.length = pre.length + 1 + post.length := by rw [HL8.out]; simp; omega
        have hlc8 : r8.L.length ≤ c7 := by
          obtain ⟨A, c, e1, h1, _⟩ := own_form hl
          injection e1 with _ _ e3
          rw [e3]; exact h1
        have hs20 : Src (w8.alloc (.cells #[] 77)) (some ⟨gL, 0, none⟩) pre.length 6 (pre.flatMap ec) := by
          have h1 := own_src_take (i := pre.length) hl (by omega)
          rw [flat_take ec_len r8.L pre.length (by omega), htk] at h1
          exact h1.keep fun b hb => al_old _ _ _ hb
        have HS20 := Lib.hid hs20
        have HO20 := Lib.hid (show (w8.alloc (.cells #[] 77)).ownsRow w8.heap.size 77 6 (.slice (some ⟨w8.heap.size, 0, none⟩) 0 0) 0 [] from World.ownsRow_lit (e := 77) (size := 6) w8 #[] 0 (Nat.le_refl _) (by decide) rfl)
        have HB20 := Lib.hid (show w8.heap.size ≤ (w8.alloc (.cells #[] 77)).heap.size by simp)
        have ha2 : (pre.length : Int) ≤ (c7 : Int) := by omega
        have HFIN := Lib.hid (show ∀ (v' : Value) (w' : World), Below w8.heap.size w8 w' → w'.ownsRow w8.heap.size 77 6 v' (pre.length + post.length) (pre.flatMap ec ++ post.flatMap ec) → RFin w (w'.setCell ⟨gr, 2, none⟩ v') base gr bN (.slice (some ⟨gL, 0, none⟩) r8.L.length c7) (rend r8 pre post true) w.heap.size w1.heap.size (pt7 0 0 0 false none 0 0 false false) (pt7 e.st e1.ssn e.proto e.un A1 kk c1 bg true) w5.heap.size kk A1 c1 xs from by
          intro v' w' hb' ho'
          have hpl : pre.length + post.length = (pre ++ post).length := by simp
          rw [hpl, ← List.flatMap_append] at ho'
          have hrm := HT8.out.rm.newL hb' ho' (fun y hy => by
            rw [HL8.out]
            rcases List.mem_append.1 hy with hy | hy
            · exact List.mem_append.2 (.inl hy)
            · exact List.mem_append.2 (.inr (List.mem_cons_of_mem _ hy)))
          have hne : ∀ b, b ≠ gr → (w'.setCell ⟨gr, 2, none⟩ v').heap[b]? = w'.heap[b]? := fun b hb => heap_setCell_other w' ⟨gr, 2, none⟩ b v' (fun e => hb e)
          refine ⟨v', ⟨hrm, fun b hb => ?_, fun b hb hlt => absurd (own_lt ho' b hb).1 (by have := HT8.out.ch.b.size; omega)⟩, (HT8.out.ch.bel2 hbase hb').own HT8.out.rm.lo (.inl rfl), ?_, ?_, own_below HO8.out fun b hb => ?_⟩
          · rcases hb with hb | hb | hb | hb
            · have := HT8.out.old b (.inl hb); omega
            · have := HT8.out.old b (.inr (.inl hb)); omega
            · have := (own_lt ho' b hb).1
              have := lt_of_heap HT8.out.rc
              omega
            · obtain ⟨y, hy, ad', e1', e2'⟩ := hb
              have := HT8.out.old b (.inr (.inr (.inr ⟨y, by
                rw [HL8.out]
                rcases List.mem_append.1 hy with hy | hy
                · exact List.mem_append.2 (.inl hy)
                · exact List.mem_append.2 (.inr (List.mem_cons_of_mem _ hy)), ad', e1', e2'⟩)))
              omega
          · exact (hne _ (by omega)).trans ((hb'.block _ (lt_of_heap HT8.out.rc)).trans HT8.out.rc)
          · exact (hne _ (by omega)).trans ((hb'.block _ (lt_of_heap HT8.out.p)).trans HT8.out.p)
          · have := own_lt HO8.out b hb
            exact (hne _ (by omega)).trans (hb'.block _ this.2))
        have HLO := Lib.hid hl
        have HDP := Lib.hid hdp
        have HLN8 := Lib.hid hln
        have hs1' : (pre.length : Int) + 1 ≤ (r8.L.length : Int) := by omega
        have hm0 : r8.L.length - (pre.length + 1) = post.length := by omega
        have HM0 := Lib.hid hm0
        clear hl hflat htk hs20 hi7 hz70 hz71 hz72 hdp hln hm0
        go_upto_region 21 with (at_builtin; go_loud (refine wpList_append_src rfl _ _ _ rfl w8.heap.size 77 i7 _ 6 48 Try.underlying68 HI7.out.1 HI7.out.2.1 HI7.out.2.2.1 HI7.out.2.2.2 rfl (by omega) _ 0 [] rfl HO20.out (some ⟨gL, 0, none⟩) pre.length c7 (pre.flatMap ec) rfl HS20.out (fun e => by cases e) (ec_one _) (by simp only [maxLen]; omega) (by omega) HB20.out ?_); intro v16 w16 hown16 hg16 hv16)
        rw [List.nil_append, Nat.zero_add] at hown16
        have hb16 : Below w8.heap.size w8 w16 := below_app (W := w8.alloc (.cells #[] 77)) (by repeat (first | with_reducible exact Below.refl _ _ | with_reducible assumption | with_reducible refine Below.drew ?_ | with_reducible refine below_dN ?_ _ | with_reducible refine Below.setCell ?_ (by first | omega | (simp; done) | (simp; omega)) _ | with_reducible refine below_al ?_ (by first | omega | (simp; done) | (simp; omega)) _ | exact Below.refl _ _ | assumption | refine Below.drew ?_ | refine below_dN ?_ _ | refine Below.setCell ?_ (by first | omega | (simp; done) | (simp; omega)) _ | refine below_al ?_ (by first | omega | (simp; done) | (simp; omega)) _ | refine below_tr (by assumption) ?_ (by first | omega | (simp; done) | (simp; omega)) | fail)) (by simp) (World.ownsRow_lit (e := 77) (size := 6) w8 #[] 0 (Nat.le_refl _) (by decide) rfl) hg16
        obtain ⟨A16, c16, rfl, _⟩ := own_form hown16
        have hlw : w16.ownsRow base 77 6 (.slice (some ⟨gL, 0, none⟩) r8.L.length c7) r8.L.length (r8.L.flatMap ec) := own_below HLO.out fun b hb => hb16.block b (own_lt HLO.out b hb).2
        have c216 : w16.cell? ⟨gr, 2, none⟩ = some (.slice (some ⟨gL, 0, none⟩) r8.L.length c7) := (hb16.cell (p := ⟨gr, 2, none⟩) hgr).trans c2
        have hbs16 := hb16.size
        have hsrcB : Src w16 (some ⟨gL, (pre.length + 1) * 6, none⟩) (r8.L.length - (pre.length + 1)) 6 (post.flatMap ec) := by
          rw [← HDP.out, ← flat_drop ec_len r8.L (pre.length + 1) (by omega)]
          exact own_src hlw (by omega) _ (.inl rfl)
        have hsrcA : post.length = 0 → Src w16 (some ⟨gL, 0, none⟩) 0 6 (post.flatMap ec) := fun h0 => by
          have : post = [] := List.eq_nil_of_length_eq_zero h0
          subst this
          exact ⟨rfl, fun ad e j u hj => by simp at hj, fun e => by cases e⟩
        have HSA := Lib.hid hsrcA
        have HSB := Lib.hid hsrcB
        have HO16 := Lib.hid hown16
        have HB16 := Lib.hid hb16
        clear hown16 hg16 hv16 hlw hb16 hsrcA hsrcB
        by_cases hcap : c7 = pre.length + 1
        · have hp0' : post.length = 0 := by have := HLN8.out; omega
          have HSA2 := Lib.hid (HSA.out hp0')
          have HP0 := Lib.hid hp0'
          clear hp0'
          subst hcap
          go_wp2_with (at_builtin; go_loud (refine wpList_append_src rfl _ _ _ rfl w8.heap.size 77 i7 _ 6 48 Try.underlying68 HI7.out.1 HI7.out.2.1 HI7.out.2.2.1 HI7.out.2.2.2 rfl (by omega) _ pre.length _ rfl HO16.out _ _ _ (post.flatMap ec) rfl HSA2.out (fun e => by cases e) (ec_one _) (by simp only [maxLen]; omega) (by omega) hbs16 ?_); intro v' w' hown hg hv; obtain ⟨A2, cc2, rfl, _⟩ := own_form hown; have hfb := HB16.out.grown hg hbs16 (fun b hb => (own_lt HO16.out b hb).1); have cgr := (hfb.cell (p := ⟨gr, 2, none⟩) hgr).trans c2; have fgr : w'.frozen? ⟨gr, 2, none⟩ = false := (hfb.frozen (p := ⟨gr, 2, none⟩) hgr).trans (HT8.out.rm.cells.fr 2); have HFB := Lib.hid hfb; have HOW := Lib.hid hown; clear hown hg hv hfb)
          go_meet
          exact HFIN.out _ _ HFB.out (by rw [HP0.out]; exact HOW.out)
        · have hcap' : ¬ (c7 : Int) = (pre.length : Int) + 1 := by omega
          go_wp2_with (at_builtin; go_loud (refine wpList_append_src rfl _ _ _ rfl w8.heap.size 77 i7 _ 6 48 Try.underlying68 HI7.out.1 HI7.out.2.1 HI7.out.2.2.1 HI7.out.2.2.2 rfl (by omega) _ pre.length _ rfl HO16.out _ _ _ (post.flatMap ec) rfl HSB.out (fun e => by cases e) (ec_one _) (by simp only [maxLen]; omega) (by omega) hbs16 ?_); intro v' w' hown hg hv; obtain ⟨A2, cc2, rfl, _⟩ := own_form hown; have hfb := HB16.out.grown hg hbs16 (fun b hb => (own_lt HO16.out b hb).1); have cgr := (hfb.cell (p := ⟨gr, 2, none⟩) hgr).trans c2; have fgr : w'.frozen? ⟨gr, 2, none⟩ = false := (hfb.frozen (p := ⟨gr, 2, none⟩) hgr).trans (HT8.out.rm.cells.fr 2); have HFB := Lib.hid hfb; have HOW := Lib.hid hown; clear hown hg hv hfb)
          go_meet
          exact HFIN.out _ _ HFB.out (by rw [← HM0.out]; exact HOW.out)
    case rest =>
      obtain ⟨vL', ⟨hrm, hrne, hvo⟩, hch, hrc, hpp, hod⟩ := hcut
      have HLAST := Lib.hid (rtake_last hrm hrne hch hbase (Nat.le_refl _) hod (by omega) (.int .u16 e.st) (.int .u16 e1.ssn) (.int .u32 e.proto) (.bool e.un) (.slice A1 kk c1) (.bool bg) (.bool en))
      unfold pt7 at hrc hpp
      have q0 := cell_of_row wc _ 0 _ 36 (0, 0) hpp
      have q1 := cell_of_row wc _ 1 _ 36 (0, 0) hpp
      have q2 := cell_of_row wc _ 2 _ 36 (0, 0) hpp
      have q3 := cell_of_row wc _ 3 _ 36 (0, 0) hpp
      have q4 := cell_of_row wc _ 4 _ 36 (0, 0) hpp
      have q5 := cell_of_row wc _ 5 _ 36 (0, 0) hpp
      have q6 := cell_of_row wc _ 6 _ 36 (0, 0) hpp
      have r0 := cell_of_row wc _ 0 _ 36 (0, 0) hrc
      have r1 := cell_of_row wc _ 1 _ 36 (0, 0) hrc
      have r2 := cell_of_row wc _ 2 _ 36 (0, 0) hrc
      have r3 := cell_of_row wc _ 3 _ 36 (0, 0) hrc
      have r4 := cell_of_row wc _ 4 _ 36 (0, 0) hrc
      have r5 := cell_of_row wc _ 5 _ 36 (0, 0) hrc
      have r6 := cell_of_row wc _ 6 _ 36 (0, 0) hrc
      have rf := fun j => frozen_of_row wc w.heap.size j _ 36 hrc
      have hRW : w.heap.size < wc.heap.size := lt_of_heap hrc
      have HVO := Lib.hid hvo
      clear hrm hrne hvo hch hrc hpp hod
      go_wp2
      refine bodyPost_ret (v := .tuple #[.agg #[.int .u16 e.st, .int .u16 e1.ssn, .int .u32 e.proto, .bool e.un, .slice A1 kk c1, .bool bg, .bool en], .bool true]) (by simp [results, Try.results25, go_sem, r0, r1, r2, r3, r4, r5, r6]) rfl ?_
      have hkm : kk = min x (rest e) := HKK.out
      have htk : xs = (e.data.drop e.at_).take x := by rw [HXS.out]; exact take_min x kk _ (by rw [List.length_drop]; exact hkm)
      have hen : en = decide (rest e ≤ x) := by rw [HEN.out]; exact rtake_en e x kk hkm hat
      have hq := rtake_eq r pre post e x kk hkm
      rw [← hen, ← HRR1.out, ← HE1.out, ← HO1.out] at hq
      rw [← HO1.out] at HR8
      rw [← HR8.out] at hq
      rw [hq] at HLAST
      rw [← htk, ← hen, ← HBG.out, ← HE1.out]
      unfold RTakeP
      rw [HXL.out]
      exact ⟨A1, c1, vL', rfl, HLAST.out.1, ⟨HLAST.out.2.1.b, HLAST.out.2.1.k⟩, HLAST.out.2.2, HVO.out⟩
end
