/- Layer 16: New and Push. -/
import Derived.Test.YtbppdgekjdpgiaaG
namespace Go.Proofs.Ytbppdgekjdpgiaa.C
open Go.RowKit
set_option linter.unusedVariables false
set_option linter.unusedSimpArgs false
attribute [local go_sem high] max2_mx min2_mn max_two min_two
attribute [local go_sem ↓] Go.wp_at_zero Go.wp_at_succ

theorem take_at {P : Program} {ops : Array Oper} {Q : Exit → Act → World → Prop} {md : Region.Mode} {S : World → Prop} {i : Nat} {oi : Oper} {d : Option Tmp} {v : Value} {fuel : Nat} {listed : Array Bool} {a : Act} {w : World} (hi : ops[i]? = some oi) (hd : oi.dst = d)
    (hs : Region.noSelect ops = true) (hf : Region.free md ops listed i = true) (hr : (Region.ready md ops listed).contains i = true)
    (hQ : ∀ c a w, Q (.panic c) (a.put d v) w → Q (.panic c) a w) (hy : YieldsIf P ops S oi v a) (hS : S w)
    (h : wpAnyH P md ops Q S fuel (listed.setIfInBounds i true) (a.put d v) w) : wpAnyH P md ops Q S (fuel + 1) listed a w := by
  subst hd
  exact wpAnyH_take hi hs hf hr hQ hy hS h
theorem MB.below {w w' : World} {role : Nat → Nat × Nat × Nat} {b s : Nat} {m : Msg} (h : MB w role b s m) (hb : Below w.heap.size w w') : MB w' role b s m := by
  obtain ⟨A, c, h1, h2, h3, h4, h5⟩ := h
  exact ⟨A, c, by rw [hb.block b (lt_of_heap h1)]; exact h1, Rd.below h2 hb, h3, h4, fun ad e => ⟨(h5 ad e).1, Nat.lt_of_lt_of_le (h5 ad e).2 hb.size⟩⟩
theorem name_exit {Q : Exit → Act → World → Prop} {e : Exit} {a : Act} {w : World} (h : ∀ W, W = w → Q e a W) : Q e a w := h w rfl
/-- a queue with a message more -/
def pushQ (q : QS) (s : Nat) (proto : Int) (un : Bool) (xs : List Int) : QS := { q with ss := fun t => if t = s then q.ss s ++ [⟨0, proto, un, xs, false⟩] else q.ss t, wai := q.wai + xs.length }
/-- behind a call that changes the queue: all that is not the queue's is as it was -/
structure Kept (w w' : World) (base : Nat) (L L' : Lay) : Prop where
  below : Below base w w'
  role : ∀ b, b < w.heap.size → L'.role b = L.role b
  far : ∀ b, b < w.heap.size → (L.role b = (9, 0, 0) ∨ L.role b = (5, 0, 0)) → w'.heap[b]? = w.heap[b]?
theorem kept_setg {w w5 : World} {base g j : Nat} {L L5 : Lay} {v : Value} (h : Kept w w5 base L L5) (hbase : base ≤ w.heap.size) (hg : base ≤ g) (hrg : L5.role g = (0, 0, 0)) (hgr : g < w.heap.size) : Kept w (w5.setCell ⟨g, j, none⟩ v) base L L5 :=
  ⟨h.below.setCell hg _, h.role, fun b hb hr => by
    rw [heap_setCell_other w5 ⟨g, j, none⟩ b v (fun e => by
      have h1 := h.role b hb
      rw [show b = g from e, hrg] at h1
      rw [show b = g from e, ← h1] at hr
      simp at hr)]
    exact h.far b hb hr⟩
theorem hgw {w w5 : World} {base g : Nat} {q : QS} {L L5 : Lay} (_ : Kept w w5 base L L5) (h : QM w base g q L) : g < w.heap.size := h.cells.lt
theorem kept_push {w w2 w4 : World} {base s : Nat} {L L5 : Lay} {r1 : Nat → Nat × Nat × Nat} {o : Obj} {v : Value} (hbase : base ≤ w.heap.size) (hb : Below w.heap.size w w2) (hsv : ∀ b, (L.sv s).ownBlock = some b → r1 b = (3, s, 0) ∧ base ≤ b) (hg : (w2.drew.alloc o).grownBy w4 (L.sv s).ownBlock) (hl : base ≤ L.bl)
    (hrole : ∀ b, b < w.heap.size → L5.role b = L.role b) (hrl : r1 L.bl = (1, 0, 0)) (hr1 : ∀ b, b < w.heap.size → r1 b = L.role b) : Kept w (w4.setCell ⟨L.bl, s, none⟩ v) base L L5 := by
  have h1 : Below base w (w2.drew.alloc o) := ((hb.mono hbase).drew).alloc (Nat.le_trans hbase (by have := hb.size; simpa using this)) _
  have h2 : Below base w w4 := h1.grown hg (Nat.le_trans hbase h1.size) (fun b e => (hsv b e).2)
  refine ⟨h2.setCell hl _, hrole, fun b hbl hr => ?_⟩
  have hne : b ≠ L.bl := fun e => by
    have := hr1 b hbl
    rw [e, hrl] at this
    rw [e, ← this] at hr
    simp at hr
  rw [heap_setCell_other w4 ⟨L.bl, s, none⟩ b v hne]
  rw [hg.block b (by have := hb.size; simp; omega) (fun e => by
    have h3 := (hsv b e.symm).1
    rw [hr1 b hbl] at h3
    rw [h3] at hr
    simp at hr)]
  have h3 : Below w.heap.size w (w2.drew.alloc o) := (hb.drew).alloc (by have := hb.size; simpa using this) _
  exact h3.block b hbl
def PushP (base g : Nat) (q' : QS) (L : Lay) (w : World) (e : Ending) (w' : World) : Prop := e = .returned (.int .i64 0) ∧ ∃ L', QM w' base g q' L' ∧ Kept w w' base L L'
set_option maxHeartbeats 4000000 in
theorem push_ok (base g : Nat) (q : QS) (L : Lay) (k : Ok q) (s n c : Nat) (proto : Int) (un : Bool) (A : Option Addr) (xs : List Int) (w : World) (h : QM w base g q L) (hbase : base ≤ w.heap.size) (hr : Rd .u8 w A n xs) (hs : s < q.n) (h0 : 0 < n) (h1 : n ≤ 65536) (hroom : n ≤ q.lim - q.wai - q.tak) (hlen : (q.ss s).length ≤ 1073741824) :
    Calls Try.prog 11 #[.pointer (some ⟨g, 0, none⟩), .int .u16 s, .int .u32 proto, .bool un, .slice A n c] w (PushP base g (pushQ q s proto un xs) L w) := by
  have hu66 := Try.underlying66
  have hu34 := Try.underlying34
  have H := Lib.hid h
  have HR := Lib.hid hr
  have c0 := h.cells.c0
  have c2 := h.cells.c2
  have c3 := h.cells.c3
  have c4 := h.cells.c4
  have hn1 := k.n1
  have m0 := k.m0
  have m1 := k.m1
  have w0 := k.w0
  have t0 := k.t0
  have wt := k.wt
  have hw1 : IntKind.i64.wrap (q.lim - q.wai) = q.lim - q.wai := by rw [IntKind.wrap_i64]; omega
  have hw2 : IntKind.i64.wrap (q.lim - q.wai - q.tak) = q.lim - q.wai - q.tak := by rw [IntKind.wrap_i64]; omega
  have hz : ((n : Int) == 0) = false := by simp; omega
  clear h hr k
  go_enter Try.func11, Try.ntmps11
  go_wp2_with fail
  refine (is_ base g q L _ H.out).mono ?_
  rintro e w' ⟨rfl, rfl⟩
  go_wp2_with fail
  go_quiet (fail)
  clear hw1 hw2 hz
  go_wp2_with fail
  refine (clone A n c xs _ (Rd.below HR.out (by repeat (first | with_reducible exact Below.refl _ _ | with_reducible assumption | with_reducible refine Below.drew ?_ | with_reducible refine below_dN ?_ _ | with_reducible refine Below.setCell ?_ (by first | omega | (simp; done) | (simp; omega)) _ | with_reducible refine below_al ?_ (by first | omega | (simp; done) | (simp; omega)) _ | exact Below.refl _ _ | assumption | refine Below.drew ?_ | refine below_dN ?_ _ | refine Below.setCell ?_ (by first | omega | (simp; done) | (simp; omega)) _ | refine below_al ?_ (by first | omega | (simp; done) | (simp; omega)) _ | refine below_tr (by assumption) ?_ (by first | omega | (simp; done) | (simp; omega)) | fail))) h0 (by omega)).mono ?_
  rintro e w1 ⟨gd, cd, rfl, hrd, hgd, hcd, _, hb1⟩
  go_wp2_with fail
  refine name_world ?_
  intro w2 hw2
  have hgd1 : gd < w1.heap.size := by
    obtain ⟨ad, e, hc⟩ := hrd.2.2 (by have := HR.out.1; omega)
    have := World.block_lt_of_cell? w1 _ (hc 0 (by have := HR.out.1; omega))
    rw [block_add] at this
    obtain rfl := Option.some.inj e
    exact this
  have hwd : Below w.heap.size w w1 := below_tr hb1 (below_dN (Below.refl _ _) _) (Nat.le_refl _)
  have hN : w.heap.size ≤ w1.heap.size := hwd.size
  have hgdw : w.heap.size ≤ gd := hgd
  have hw12 : Below w1.heap.size w1 w2 := by subst hw2; exact (Below.refl _ _).alloc (Nat.le_refl _) _
  have hww2 : Below w.heap.size w w2 := below_tr hw12 hwd (Nat.le_refl _)
  obtain ⟨r1, hr1⟩ : ∃ r1 : Nat → Nat × Nat × Nat, r1 = fun b => if b = w1.heap.size then (4, s, L.hd s + (q.ss s).length) else if b = gd then (5, 0, 0) else L.role b := ⟨_, rfl⟩
  have hr1a : ∀ b, b < w.heap.size → r1 b = L.role b := fun b hb => by rw [hr1]; show (if b = w1.heap.size then _ else if b = gd then _ else _) = _; rw [if_neg (by omega), if_neg (by omega)]
  have hr1b : r1 w1.heap.size = (4, s, L.hd s + (q.ss s).length) := by rw [hr1]; simp
  have hr1c : r1 gd = (5, 0, 0) := by rw [hr1]; show (if gd = w1.heap.size then _ else if gd = gd then _ else _) = _; rw [if_neg (by omega), if_pos rfl]
  have HQ2 : QM w2 base g q { L with role := r1 } := (H.out.reRole r1 hr1a).below hww2
  have HB2 : MB w2 r1 w1.heap.size s ⟨0, proto, un, xs, false⟩ := ⟨some ⟨gd, 0, none⟩, cd, by subst hw2; exact heap_alloc_new w1 _, Rd.below hrd hw12, hcd, (fun e => by cases e), fun ad e => by obtain rfl := Option.some.inj e; exact ⟨hr1c, Nat.lt_of_lt_of_le hgd1 hw12.size⟩⟩
  have hB2lt : w1.heap.size < w2.heap.size := by subst hw2; simp
  have HQ := Lib.hid HQ2
  have HB := Lib.hid HB2
  have HR1B := Lib.hid hr1b
  have HR1A := Lib.hid hr1a
  clear hw2 hr1 hr1a hr1b hr1c HQ2 HB2 hrd hb1 hgd hgd1 hgdw hcd c0 c2 c3 c4
  have c0 : w2.cell? ⟨g, 0, none⟩ = some (.slice (some ⟨L.bl, 0, none⟩) q.n q.n) := HQ.out.cells.c0
  have hgl := HQ.out.cells.lt
  have rc : w2.cell? ⟨L.bl, s, none⟩ = some (L.sv s) := (HQ.out.row s hs).1
  have rf : w2.frozen? ⟨L.bl, s, none⟩ = false := (HQ.out.row s hs).2
  have hbll : L.bl < w2.heap.size := by obtain ⟨lv, hlv, _, _⟩ := HQ.out.lb; exact lt_of_heap hlv
  have hs0 : (0 : Int) ≤ (s : Int) := by omega
  have hs1 : (s : Int) < (q.n : Int) := by omega
  have hSV := Lib.hid (show SV w2 (L.sv s) (ptrs q L s) from HQ.out.sv s hs)
  refine wp_region_held_drew (S := (fun w' => w'.cell? ⟨g, 0, none⟩ = some (.slice (some ⟨L.bl, 0, none⟩) q.n q.n))) (by kernel_rfl) c0 (fun hHeld => ?_)
  refine take_at (i := 0) (d := some 60) (v := ?v100) rfl rfl (by kernel_rfl) (by kernel_rfl) (by kernel_rfl) (fun _ _ _ h => h) (Or.inl ⟨by rfl, ?z100⟩) (by assumption) ?k100
  case z100 => (intro w hSw; (try dsimp only at hSw); go_simp; try (with_reducible rfl))
  try simp only [Act.put, List.setIfInBounds_toArray, List.set_cons_zero, List.set_cons_succ]
  refine take_at (i := 1) (d := some 61) (v := ?v101) rfl rfl (by kernel_rfl) (by kernel_rfl) (by kernel_rfl) (fun _ _ _ h => h) (Or.inl ⟨by rfl, ?z101⟩) (by assumption) ?k101
  case z101 => (intro w hSw; (try dsimp only at hSw); go_simp; try (with_reducible rfl))
  try simp only [Act.put, List.setIfInBounds_toArray, List.set_cons_zero, List.set_cons_succ]
  refine take_at (i := 2) (d := some 62) (v := ?v102) rfl rfl (by kernel_rfl) (by kernel_rfl) (by kernel_rfl) (fun _ _ _ h => h) (Or.inl ⟨by rfl, ?z102⟩) (by assumption) ?k102
  case z102 => (intro w hSw; (try dsimp only at hSw); go_simp; try (with_reducible rfl))
  try simp only [Act.put, List.setIfInBounds_toArray, List.set_cons_zero, List.set_cons_succ]
  refine take_at (i := 3) (d := some 63) (v := ?v103) rfl rfl (by kernel_rfl) (by kernel_rfl) (by kernel_rfl) (fun _ _ _ h => h) (Or.inl ⟨by rfl, ?z103⟩) (by assumption) ?k103
  case z103 => (intro w hSw; (try dsimp only at hSw); go_simp; try (with_reducible rfl))
  try simp only [Act.put, List.setIfInBounds_toArray, List.set_cons_zero, List.set_cons_succ]
  refine take_at (i := 4) (d := some 64) (v := ?v104) rfl rfl (by kernel_rfl) (by kernel_rfl) (by kernel_rfl) (fun _ _ _ h => h) (Or.inl ⟨by rfl, ?z104⟩) (by assumption) ?k104
  case z104 => (intro w hSw; (try dsimp only at hSw); go_simp; try (with_reducible rfl))
  try simp only [Act.put, List.setIfInBounds_toArray, List.set_cons_zero, List.set_cons_succ]
  refine take_at (i := 5) (d := some 65) (v := ?v105) rfl rfl (by kernel_rfl) (by kernel_rfl) (by kernel_rfl) (fun _ _ _ h => h) (Or.inl ⟨by rfl, ?z105⟩) (by assumption) ?k105
  case z105 => (intro w hSw; (try dsimp only at hSw); go_simp; try (with_reducible rfl))
  try simp only [Act.put, List.setIfInBounds_toArray, List.set_cons_zero, List.set_cons_succ]
  refine take_at (i := 6) (d := some 66) (v := ?v106) rfl rfl (by kernel_rfl) (by kernel_rfl) (by kernel_rfl) (fun _ _ _ h => h) (Or.inl ⟨by rfl, ?z106⟩) (by assumption) ?k106
  case z106 => (intro w hSw; (try dsimp only at hSw); go_simp; try (with_reducible rfl))
  try simp only [Act.put, List.setIfInBounds_toArray, List.set_cons_zero, List.set_cons_succ]
  refine take_at (i := 7) (d := some 67) (v := ?v107) rfl rfl (by kernel_rfl) (by kernel_rfl) (by kernel_rfl) (fun _ _ _ h => h) (Or.inl ⟨by rfl, ?z107⟩) (by assumption) ?k107
  case z107 => (intro w hSw; (try dsimp only at hSw); go_simp; try (with_reducible rfl))
  try simp only [Act.put, List.setIfInBounds_toArray, List.set_cons_zero, List.set_cons_succ]
  refine take_at (i := 8) (d := some 68) (v := ?v108) rfl rfl (by kernel_rfl) (by kernel_rfl) (by kernel_rfl) (fun _ _ _ h => h) (Or.inl ⟨by rfl, ?z108⟩) (by assumption) ?k108
  case z108 => (intro w hSw; (try dsimp only at hSw); go_simp; try (with_reducible rfl))
  try simp only [Act.put, List.setIfInBounds_toArray, List.set_cons_zero, List.set_cons_succ]
  refine take_at (i := 9) (d := some 69) (v := ?v109) rfl rfl (by kernel_rfl) (by kernel_rfl) (by kernel_rfl) (fun _ _ _ h => h) (Or.inl ⟨by rfl, ?z109⟩) (by assumption) ?k109
  case z109 => (intro w hSw; (try dsimp only at hSw); go_simp; try (with_reducible rfl))
  try simp only [Act.put, List.setIfInBounds_toArray, List.set_cons_zero, List.set_cons_succ]
  refine take_at (i := 10) (d := some 70) (v := ?v110) rfl rfl (by kernel_rfl) (by kernel_rfl) (by kernel_rfl) (fun _ _ _ h => h) (Or.inl ⟨by rfl, ?z110⟩) (by assumption) ?k110
  case z110 => (intro w hSw; (try dsimp only at hSw); go_simp; try (with_reducible rfl))
  try simp only [Act.put, List.setIfInBounds_toArray, List.set_cons_zero, List.set_cons_succ]
  refine take_at (i := 12) (d := some 72) (v := ?v111) rfl rfl (by kernel_rfl) (by kernel_rfl) (by kernel_rfl) (fun _ _ _ h => h) (Or.inl ⟨by rfl, ?z111⟩) (by assumption) ?k111
  case z111 => (intro w hSw; (try dsimp only at hSw); go_simp; try (with_reducible rfl))
  try simp only [Act.put, List.setIfInBounds_toArray, List.set_cons_zero, List.set_cons_succ]
  refine wpAnyH_ready (rs := [11, 13]) (by kernel_rfl) (by simp) ?_
  refine AllReadyH.cons rfl (fun K hK => ?_) (AllReadyH.cons rfl (fun K hK => ?_) AllReadyH.nil)
  · go_simp
    refine hK.out _ _ (by assumption) (fun hHeld => ?_)
    clear hK K
    try simp only [Act.put, List.setIfInBounds_toArray, List.set_cons_zero, List.set_cons_succ]
    refine wpAnyH_ready (rs := [13]) (by kernel_rfl) (by simp) ?_
    refine AllReadyH.cons rfl (fun K hK => ?_) AllReadyH.nil
    go_simp
    refine hK.out _ _ ((((Below.refl w2.heap.size w2).drew.alloc (Nat.le_refl _) _).cell (p := ⟨g, 0, none⟩) hgl).trans c0) (fun hHeld => ?_)
    clear hK K
    try simp only [Act.put, List.setIfInBounds_toArray, List.set_cons_zero, List.set_cons_succ]
    refine wpAnyH_ready (rs := [14]) (by kernel_rfl) (by simp) ?_
    refine AllReadyH.cons rfl (fun K hK => ?_) AllReadyH.nil
    rw [if_pos (by rfl)]
    refine wp_append_ptr _ _ rfl (L.sv s) (ptrs q L s) rfl (hSV.out.keep fun b hb => (((Below.refl w2.heap.size w2).drew.alloc (Nat.le_refl _) _).block b (hSV.out.lt b hb))) (by rw [ptrs_len]; exact hlen) ⟨w2.heap.size, 0, none⟩ 1 (.pointer (some ⟨w1.heap.size, 0, none⟩)) rfl (by simp [go_sem, Addr.add]) rfl ?_
    intro v4 w4 hv4 hg4 hvo
    obtain ⟨a5, n5, e5, _⟩ := hv4.form
    rw [show (ptrs q L s ++ [Value.pointer (some ⟨w1.heap.size, 0, none⟩)]).length = (q.ss s).length + 1 from by simp [ptrs]] at e5
    subst e5
    have HV4 := Lib.hid hv4
    have HG4 := Lib.hid hg4
    have HVO := Lib.hid hvo
    have hrole : ∀ b, (L.sv s).ownBlock = some b → r1 b = (3, s, 0) := fun b hb => (HQ.out.svr s hs b hb).1
    have far4 : ∀ b, b < w2.heap.size → r1 b ≠ (3, s, 0) → w4.heap[b]? = w2.heap[b]? := fun b hb hr => (HG4.out.block b (by simp; omega) (fun e => hr (hrole b e.symm))).trans (((Below.refl w2.heap.size w2).drew.alloc (Nat.le_refl _) _).block b hb)
    have FAR := Lib.hid far4
    have rc4 : w4.cell? ⟨L.bl, s, none⟩ = some (L.sv s) := (World.cell?_of_block (far4 L.bl hbll (by rw [show r1 L.bl = (1, 0, 0) from HQ.out.rl]; simp))).trans rc
    have rf4 : w4.frozen? ⟨L.bl, s, none⟩ = false := (World.frozen?_of_block (far4 L.bl hbll (by rw [show r1 L.bl = (1, 0, 0) from HQ.out.rl]; simp))).trans rf
    have cg4 : w4.cell? ⟨g, 0, none⟩ = some (.slice (some ⟨L.bl, 0, none⟩) q.n q.n) := (World.cell?_of_block (far4 g hgl (by rw [show r1 g = (0, 0, 0) from HQ.out.rg]; simp))).trans c0
    clear hv4 hg4 hvo far4 hrole
    refine hK.out _ _ cg4 (fun hHeld => ?_)
    clear hK K
    try simp only [Act.put, List.setIfInBounds_toArray, List.set_cons_zero, List.set_cons_succ]
    refine take_at (i := 15) (d := some 75) (v := ?v112) rfl rfl (by kernel_rfl) (by kernel_rfl) (by kernel_rfl) (fun _ _ _ h => h) (Or.inl ⟨by rfl, ?z112⟩) (by assumption) ?k112
    case z112 => (intro w hSw; (try dsimp only at hSw); go_simp; try (with_reducible rfl))
    try simp only [Act.put, List.setIfInBounds_toArray, List.set_cons_zero, List.set_cons_succ]
    refine wpAnyH_ready (rs := [16]) (by kernel_rfl) (by simp) ?_
    refine AllReadyH.cons rfl (fun K hK => ?_) AllReadyH.nil
    go_simp
    have hgbl : g ≠ L.bl := role_ne (role := r1) (by rw [show r1 L.bl = (1, 0, 0) from HQ.out.rl, show r1 g = (0, 0, 0) from HQ.out.rg]; simp)
    refine hK.out _ _ ((World.cell?_of_block (heap_setCell_other w4 ⟨L.bl, s, none⟩ g _ hgbl)).trans cg4) (fun hHeld => ?_)
    clear hK K
    try simp only [Act.put, List.setIfInBounds_toArray, List.set_cons_zero, List.set_cons_succ]
    refine wpAnyH_done (by kernel_rfl) ?_ _
    refine name_exit ?_
    intro w5 hw5
    have hal : Below w2.heap.size w2 (w2.drew.alloc (.cells #[.pointer (some ⟨w1.heap.size, 0, none⟩)] 63)) := (Below.refl w2.heap.size w2).drew.alloc (Nat.le_refl _) _
    obtain ⟨L5, HQ5, e1, e2, hrl5⟩ := QM.push (HQ.out.below hal) s hs ⟨0, proto, un, xs, false⟩ w1.heap.size (HB.out.below hal) HR1B.out (Nat.le_trans hbase hN) (by have := hww2.size; simp; omega) w4 _ HV4.out HG4.out HVO.out
    have HQ5' : QM w5 base g { q with ss := fun t => if t = s then q.ss s ++ [⟨0, proto, un, xs, false⟩] else q.ss t } L5 := by rw [hw5]; exact HQ5
    have hK5 : Kept w w5 base L L5 := by
      rw [hw5]
      exact kept_push hbase hww2 (HQ.out.svr s hs) HG4.out HQ.out.hl (fun b hb => (hrl5 b (by have := hww2.size; simp; omega)).trans (HR1A.out b hb)) (HQ.out.rl) HR1A.out
    have HQ6 := Lib.hid HQ5'
    have HK6 := Lib.hid hK5
    clear hw5 HQ5 HQ5' hK5 e1 e2 hrl5 hHeld rc4 rf4 cg4 c0 rc rf
    have c3 := HQ6.out.cells.c3
    have f3 := HQ6.out.cells.fr 3
    have hxl : xs.length = n := HR.out.1
    have HXL := Lib.hid hxl
    clear hxl
    go_wp2
    go_ret
    refine ⟨rfl, L5, HQ6.out.setQ (pushQ q s proto un xs) rfl rfl rfl ?_ (oth_set _ _ _ _), kept_setg HK6.out hbase HQ6.out.hg (HQ6.out.rg) (hgw HK6.out H.out)⟩
    rw [heap_setCell_same w5 g 3 _ 59 _ HQ6.out.qb]
    simp [qcells, pushQ, HXL.out]
  · go_simp
    refine hK.out _ _ ((((Below.refl w2.heap.size w2).drew.alloc (Nat.le_refl _) _).cell (p := ⟨g, 0, none⟩) hgl).trans c0) (fun hHeld => ?_)
    clear hK K
    try simp only [Act.put, List.setIfInBounds_toArray, List.set_cons_zero, List.set_cons_succ]
    refine wpAnyH_ready (rs := [11]) (by kernel_rfl) (by simp) ?_
    refine AllReadyH.cons rfl (fun K hK => ?_) AllReadyH.nil
    go_simp
    refine hK.out _ _ (by assumption) (fun hHeld => ?_)
    clear hK K
    try simp only [Act.put, List.setIfInBounds_toArray, List.set_cons_zero, List.set_cons_succ]
    refine wpAnyH_ready (rs := [14]) (by kernel_rfl) (by simp) ?_
    refine AllReadyH.cons rfl (fun K hK => ?_) AllReadyH.nil
    rw [if_pos (by rfl)]
    refine wp_append_ptr _ _ rfl (L.sv s) (ptrs q L s) rfl (hSV.out.keep fun b hb => (((Below.refl w2.heap.size w2).drew.alloc (Nat.le_refl _) _).block b (hSV.out.lt b hb))) (by rw [ptrs_len]; exact hlen) ⟨w2.heap.size, 0, none⟩ 1 (.pointer (some ⟨w1.heap.size, 0, none⟩)) rfl (by simp [go_sem, Addr.add]) rfl ?_
    intro v4 w4 hv4 hg4 hvo
    obtain ⟨a5, n5, e5, _⟩ := hv4.form
    rw [show (ptrs q L s ++ [Value.pointer (some ⟨w1.heap.size, 0, none⟩)]).length = (q.ss s).length + 1 from by simp [ptrs]] at e5
    subst e5
    have HV4 := Lib.hid hv4
    have HG4 := Lib.hid hg4
    have HVO := Lib.hid hvo
    have hrole : ∀ b, (L.sv s).ownBlock = some b → r1 b = (3, s, 0) := fun b hb => (HQ.out.svr s hs b hb).1
    have far4 : ∀ b, b < w2.heap.size → r1 b ≠ (3, s, 0) → w4.heap[b]? = w2.heap[b]? := fun b hb hr => (HG4.out.block b (by simp; omega) (fun e => hr (hrole b e.symm))).trans (((Below.refl w2.heap.size w2).drew.alloc (Nat.le_refl _) _).block b hb)
    have FAR := Lib.hid far4
    have rc4 : w4.cell? ⟨L.bl, s, none⟩ = some (L.sv s) := (World.cell?_of_block (far4 L.bl hbll (by rw [show r1 L.bl = (1, 0, 0) from HQ.out.rl]; simp))).trans rc
    have rf4 : w4.frozen? ⟨L.bl, s, none⟩ = false := (World.frozen?_of_block (far4 L.bl hbll (by rw [show r1 L.bl = (1, 0, 0) from HQ.out.rl]; simp))).trans rf
    have cg4 : w4.cell? ⟨g, 0, none⟩ = some (.slice (some ⟨L.bl, 0, none⟩) q.n q.n) := (World.cell?_of_block (far4 g hgl (by rw [show r1 g = (0, 0, 0) from HQ.out.rg]; simp))).trans c0
    clear hv4 hg4 hvo far4 hrole
    refine hK.out _ _ cg4 (fun hHeld => ?_)
    clear hK K
    try simp only [Act.put, List.setIfInBounds_toArray, List.set_cons_zero, List.set_cons_succ]
    refine take_at (i := 15) (d := some 75) (v := ?v113) rfl rfl (by kernel_rfl) (by kernel_rfl) (by kernel_rfl) (fun _ _ _ h => h) (Or.inl ⟨by rfl, ?z113⟩) (by assumption) ?k113
    case z113 => (intro w hSw; (try dsimp only at hSw); go_simp; try (with_reducible rfl))
    try simp only [Act.put, List.setIfInBounds_toArray, List.set_cons_zero, List.set_cons_succ]
    refine wpAnyH_ready (rs := [16]) (by kernel_rfl) (by simp) ?_
    refine AllReadyH.cons rfl (fun K hK => ?_) AllReadyH.nil
    go_simp
    have hgbl : g ≠ L.bl := role_ne (role := r1) (by rw [show r1 L.bl = (1, 0, 0) from HQ.out.rl, show r1 g = (0, 0, 0) from HQ.out.rg]; simp)
    refine hK.out _ _ ((World.cell?_of_block (heap_setCell_other w4 ⟨L.bl, s, none⟩ g _ hgbl)).trans cg4) (fun hHeld => ?_)
    clear hK K
    try simp only [Act.put, List.setIfInBounds_toArray, List.set_cons_zero, List.set_cons_succ]
    refine wpAnyH_done (by kernel_rfl) ?_ _
    refine name_exit ?_
    intro w5 hw5
    have hal : Below w2.heap.size w2 (w2.drew.alloc (.cells #[.pointer (some ⟨w1.heap.size, 0, none⟩)] 63)) := (Below.refl w2.heap.size w2).drew.alloc (Nat.le_refl _) _
    obtain ⟨L5, HQ5, e1, e2, hrl5⟩ := QM.push (HQ.out.below hal) s hs ⟨0, proto, un, xs, false⟩ w1.heap.size (HB.out.below hal) HR1B.out (Nat.le_trans hbase hN) (by have := hww2.size; simp; omega) w4 _ HV4.out HG4.out HVO.out
    have HQ5' : QM w5 base g { q with ss := fun t => if t = s then q.ss s ++ [⟨0, proto, un, xs, false⟩] else q.ss t } L5 := by rw [hw5]; exact HQ5
    have hK5 : Kept w w5 base L L5 := by
      rw [hw5]
      exact kept_push hbase hww2 (HQ.out.svr s hs) HG4.out HQ.out.hl (fun b hb => (hrl5 b (by have := hww2.size; simp; omega)).trans (HR1A.out b hb)) (HQ.out.rl) HR1A.out
    have HQ6 := Lib.hid HQ5'
    have HK6 := Lib.hid hK5
    clear hw5 HQ5 HQ5' hK5 e1 e2 hrl5 hHeld rc4 rf4 cg4 c0 rc rf
    have c3 := HQ6.out.cells.c3
    have f3 := HQ6.out.cells.fr 3
    have hxl : xs.length = n := HR.out.1
    have HXL := Lib.hid hxl
    clear hxl
    go_wp2
    go_ret
    refine ⟨rfl, L5, HQ6.out.setQ (pushQ q s proto un xs) rfl rfl rfl ?_ (oth_set _ _ _ _), kept_setg HK6.out hbase HQ6.out.hg (HQ6.out.rg) (hgw HK6.out H.out)⟩
    rw [heap_setCell_same w5 g 3 _ 59 _ HQ6.out.qb]
    simp [qcells, pushQ, HXL.out]
