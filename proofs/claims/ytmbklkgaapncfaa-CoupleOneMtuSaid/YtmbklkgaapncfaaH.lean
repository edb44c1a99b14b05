/- Flows of the call's own; Clone; Grown. -/
import Derived.Test.YtmbklkgaapncfaaG
import Derived.Deep.AppendLies
import Derived.Laws.OwnMore
namespace Go.Proofs.Ytmbklkgaapncfaa.C
open Go.RowKit OpenStruct
set_option linter.unusedVariables false
set_option linter.unusedSimpArgs false
attribute [local go_sem high] max2_mx min2_mn max_two min_two
attribute [local go_sem ↓] Go.wp_at_zero Go.wp_at_succ

def fcells (zs : List E32) : List Value := zs.flatMap fun z => [.int .i64 z.f0, .int .i64 z.f1]
theorem fcells_cons (z : E32) (zs : List E32) : fcells (z :: zs) = .int .i64 z.f0 :: .int .i64 z.f1 :: fcells zs := by simp [fcells]
theorem fcells_snoc (zs : List E32) (z : E32) : fcells (zs ++ [z]) = fcells zs ++ [.int .i64 z.f0, .int .i64 z.f1] := by simp [fcells]
theorem fcells_len (zs : List E32) : (fcells zs).length = zs.length * 2 := by
  induction zs with
  | nil => rfl
  | cons z zs ih => rw [fcells_cons]; simp [ih]; omega
theorem fcells_get (zs : List E32) (i : Nat) (h : i < zs.length) : (fcells zs)[i * 2]? = some (.int .i64 (gc zs i)) ∧ (fcells zs)[i * 2 + 1]? = some (.int .i64 (gt zs i)) := by
  induction zs generalizing i with
  | nil => simp at h
  | cons z zs ih =>
    rw [fcells_cons]
    cases i with
    | zero => exact ⟨rfl, rfl⟩
    | succ i =>
      have := ih i (by simpa using h)
      rw [show (i + 1) * 2 = i * 2 + 1 + 1 by omega]
      simpa [gc, gt] using this
theorem fcells_set (zs : List E32) (i : Nat) (y : Int) (h : i < zs.length) : (fcells zs).set (i * 2) (.int .i64 y) = fcells (zs.set i ⟨y, gt zs i⟩) := by
  induction zs generalizing i with
  | nil => simp at h
  | cons z zs ih =>
    cases i with
    | zero => simp [fcells_cons, gt]
    | succ i =>
      have := ih i (by simpa using h)
      rw [fcells_cons, show (i + 1) * 2 = i * 2 + 1 + 1 by omega, List.set_cons_succ, List.set_cons_succ, this, List.set_cons_succ, fcells_cons]
      simp [gt]
theorem fcells_one (zs : List E32) : ∀ u ∈ fcells zs, u.oneCell' = true := by
  intro u hu
  simp only [fcells, List.mem_flatMap] at hu
  obtain ⟨z, _, hz⟩ := hu
  simp at hz
  rcases hz with rfl | rfl <;> rfl
theorem Fd.cells {w : World} {ad : Addr} {n : Nat} {zs : List E32} (h : Fd w (some ad) n zs) : ∀ j u, (fcells zs)[j]? = some u → w.cell? (ad.add j) = some u := by
  intro j u hu
  have hj : j < zs.length * 2 := by rw [← fcells_len]; exact (List.getElem?_eq_some_iff.1 hu).1
  have hn : 0 < n := by have := h.1; omega
  obtain ⟨ad', e, hc⟩ := h.2.2 hn
  obtain rfl := Option.some.inj e
  obtain ⟨i, hi⟩ : ∃ i, i = j / 2 := ⟨_, rfl⟩
  have hil : i < zs.length := by omega
  obtain ⟨g1, g2⟩ := fcells_get zs i hil
  obtain ⟨c1, c2⟩ := hc i (by have := h.1; omega)
  rcases Nat.mod_two_eq_zero_or_one j with h0 | h0
  · obtain rfl : j = i * 2 := by omega
    rw [g1] at hu; obtain rfl := Option.some.inj hu; exact c1
  · obtain rfl : j = i * 2 + 1 := by omega
    rw [g2] at hu; obtain rfl := Option.some.inj hu
    rw [← c2]
    congr 1
    unfold Addr.add
    simp
    split
    · obtain rfl : i = 0 := by omega
      simp
    · simp; omega
theorem Fd_own {w : World} {base : Nat} {e : TypeId} {v : Value} {n : Nat} {zs : List E32} (h : w.ownsRow base e 2 v n (fcells zs)) : ∃ A c, v = .slice A n c ∧ Fd w A n zs := by
  have hl : zs.length = n := by have := h.1; rw [fcells_len] at this; omega
  rcases Nat.eq_zero_or_pos n with h0 | h0
  · subst h0
    rcases h.2 with ⟨rfl, _⟩ | ⟨g, cap, cur, rfl, _⟩
    · exact ⟨none, 0, rfl, hl, by omega, fun hp => absurd hp (by omega)⟩
    · exact ⟨_, cap, rfl, hl, by omega, fun hp => absurd hp (by omega)⟩
  · obtain ⟨g, cap, rfl, _, _⟩ := h.form h0
    have hm : n ≤ 9223372036854775807 := by
      rcases h.2 with ⟨_, h1⟩ | ⟨g', cap', cur, he, _, _, h1, h2, _⟩
      · omega
      · simp only [maxLen] at h2
        omega
    refine ⟨_, cap, rfl, hl, hm, fun _ => ⟨_, rfl, fun j hj => ?_⟩⟩
    obtain ⟨g1, g2⟩ := fcells_get zs j (by omega)
    rw [add_plain, h.cellAt (j * 2) (by omega), h.cellAt (j * 2 + 1) (by omega)]
    exact ⟨g1, g2⟩
theorem own_below {w w' : World} {base : Nat} {e : TypeId} {size : Nat} {v : Value} {n : Nat} {xs : List Value} (h : w.ownsRow base e size v n xs) (hb : Below w.heap.size w w') : w'.ownsRow base e size v n xs := by
  refine ⟨h.1, ?_⟩
  rcases h.2 with h1 | ⟨g, cap, cur, h1, hb1, hh, hr⟩
  · exact .inl h1
  · exact .inr ⟨g, cap, cur, h1, hb1, by rw [hb.block g (Array.getElem?_eq_some_iff.1 hh).1]; exact hh, hr⟩
theorem info32 : (Try.prog.info? 32).map (fun i => (i.zero, i.size, i.bytes)) = some (some (.agg #[.int .i64 0, .int .i64 0]), 2, 16) := by kernel_rfl
theorem info_parts2 {P : Program} {t : TypeId} {z : Value} {n b : Nat} (h : (P.info? t).map (fun i => (i.zero, i.size, i.bytes)) = some (some z, n, b)) : ∃ i, P.info? t = some i ∧ i.zero = some z ∧ i.size = n ∧ i.bytes = b := by
  obtain ⟨i, h1, h2⟩ := Option.map_eq_some_iff.1 h
  simp only [Prod.mk.injEq] at h2
  exact ⟨i, h1, h2.1, h2.2.1, h2.2.2⟩
def RetF (zs : List E32) (w : World) (e : Ending) (w' : World) : Prop := ∃ g c, e = .returned (.slice (some ⟨g, 0, none⟩) zs.length c) ∧ w'.ownsRow w.heap.size 32 2 (.slice (some ⟨g, 0, none⟩) zs.length c) zs.length (fcells zs) ∧ Below w.heap.size w w'
set_option maxHeartbeats 1000000 in
theorem clone (A : Option Addr) (n c : Nat) (zs : List E32) (w : World) (hr : Fd w A n zs) (h0 : 0 < n) (hn8 : n ≤ 8) : Calls Try.prog 35 #[.slice A n c] w (RetF zs w) := by
  obtain ⟨i0, hi0, hz0, hz1, hz2⟩ := info_parts2 info32
  have heq := fun (W : World) => Lib.run_eql_slice_nil (P := Try.prog) W 22 32 A n c 0 0 Try.underlying22
  obtain ⟨ad, rfl, _⟩ := hr.2.2 h0
  have hA : (some ad).isNone = false := rfl
  have HR := Lib.hid hr
  have hl : zs.length = n := hr.1
  clear hr
  go_enter Try.func35, Try.ntmps35
  go_wp2_with (at_builtin; refine wpList_append_lies _ rfl _ _ _ rfl w.heap.size 32 i0 _ 2 16 Try.underlying22 hi0 hz0 hz1 hz2 rfl (by omega) _ 0 [] rfl (World.ownsRow_lit (e := 32) (size := 2) w #[] 0 (Nat.le_refl _) (by decide) rfl) ad n c (fcells zs) rfl (by rw [fcells_len, hl]) (Fd.cells (Fd.below HR.out (by repeat (first | exact Below.refl _ _ | assumption | refine Below.drew ?_ | refine below_dN ?_ _ | refine Below.setCell ?_ (by first | omega | (simp; done) | (simp; omega)) _ | refine below_al ?_ (by first | omega | (simp; done) | (simp; omega)) _ | refine below_tr (by assumption) ?_ (by first | omega | (simp; done) | (simp; omega)))))) (fcells_one zs) h0 (by simp only [maxLen]; omega) (by omega) (by simp) (w.heap.size + 1) (by simp) ?_; intro g cap w' hown hg hat hlt)
  have hB : Below w.heap.size w w' := below_app (W := w.alloc (.cells #[] 32)) (by repeat (first | exact Below.refl _ _ | assumption | refine Below.drew ?_ | refine below_dN ?_ _ | refine Below.setCell ?_ (by first | omega | (simp; done) | (simp; omega)) _ | refine below_al ?_ (by first | omega | (simp; done) | (simp; omega)) _ | refine below_tr (by assumption) ?_ (by first | omega | (simp; done) | (simp; omega)))) (by simp) (World.ownsRow_lit (e := 32) (size := 2) w #[] 0 (Nat.le_refl _) (by decide) rfl) hg
  rw [List.nil_append, Nat.zero_add] at hown
  clear hg hat
  subst hl
  go_ret
  exact ⟨g, cap, rfl, hown, hB⟩

/-! ### Grown -/
def moreV (zs : List E32) (k : Nat) (m a : Int) : Int := if a = 0 then 0 else if gc zs k ≤ gt zs k then shareV zs k (mn a m) else if gc zs k ≤ a then shareV zs k m else 0
def newC (zs : List E32) (k : Nat) (m a most : Int) : Int := mx (gc zs k) (mn (gc zs k + moreV zs k m a) most)
/-- the first k grown -/
def grownL (zs : List E32) (us : List Int) (m most : Int) (k : Nat) : List E32 := (List.range k).map fun j => ⟨newC zs j m (rdI us j) most, gt zs j⟩
def toGrow (zs : List E32) (us : List Int) (m most : Int) (k : Nat) : List E32 := grownL zs us m most k ++ zs.drop k
def grownE (zs : List E32) (us : List Int) (m most : Int) : Int := if rightF zs m = true then (if us.length = zs.length ∧ inB most 1 1073741824 = true ∧ okAll us = true then 0 else 1) else 130
theorem grownL_len (zs : List E32) (us : List Int) (m most : Int) (k : Nat) : (grownL zs us m most k).length = k := by simp [grownL]
theorem grownL_s (zs : List E32) (us : List Int) (m most : Int) (k : Nat) : grownL zs us m most (k + 1) = grownL zs us m most k ++ [⟨newC zs k m (rdI us k) most, gt zs k⟩] := by simp [grownL, List.range_succ]
theorem toGrow_len (zs : List E32) (us : List Int) (m most : Int) (k : Nat) (hk : k ≤ zs.length) : (toGrow zs us m most k).length = zs.length := by simp [toGrow, grownL_len]; omega
theorem toGrow_0 (zs : List E32) (us : List Int) (m most : Int) : toGrow zs us m most 0 = zs := by simp [toGrow, grownL]
theorem toGrow_n (zs : List E32) (us : List Int) (m most : Int) : toGrow zs us m most zs.length = grownL zs us m most zs.length := by simp [toGrow]
theorem toGrow_at (zs : List E32) (us : List Int) (m most : Int) (k : Nat) : gc (toGrow zs us m most k) k = gc zs k ∧ gt (toGrow zs us m most k) k = gt zs k := by
  unfold gc gt toGrow
  rw [List.getD_eq_getElem?_getD, List.getElem?_append_right (by rw [grownL_len]; omega), grownL_len, List.getElem?_drop, List.getD_eq_getElem?_getD]
  simp
theorem toGrow_s (zs : List E32) (us : List Int) (m most : Int) (k : Nat) (hk : k < zs.length) : (toGrow zs us m most k).set k ⟨newC zs k m (rdI us k) most, gt (toGrow zs us m most k) k⟩ = toGrow zs us m most (k + 1) := by
  rw [(toGrow_at zs us m most k).2]
  unfold toGrow
  rw [List.set_append_right _ _ (by rw [grownL_len]; omega), grownL_len, Nat.sub_self, List.drop_eq_getElem_cons hk, List.set_cons_zero, grownL_s]
  simp
theorem gt_le_sum {zs : List E32} (h : okFs zs = true) (j : Nat) (hj : j < zs.length) : gt zs j ≤ sumT zs := by
  have h1 := sumT_le h (j + 1) (by omega)
  rw [sumT_snoc zs j hj] at h1
  have h2 := (sumT_bound h j (by omega)).1
  omega
theorem share_le {zs : List E32} (h : okFs zs = true) (j : Nat) (hj : j < zs.length) {x : Int} (hx : 0 ≤ x) : 0 ≤ shareV zs j x ∧ shareV zs j x ≤ x := by
  obtain ⟨_, _, t0, _⟩ := okFs_at h j hj
  have hg := gt_le_sum h j hj
  obtain ⟨s0, s1, _⟩ := share_div (zs := zs) (j := j) (x := x) (by omega) hx (by omega)
  refine ⟨s0, Int.le_of_mul_le_mul_right (Int.le_trans s1 (Int.mul_le_mul_of_nonneg_left hg hx)) (by omega)⟩
theorem okAll_at {xs : List Int} (h : okAll xs = true) (k : Nat) : 0 ≤ rdI xs k ∧ rdI xs k ≤ 1073741824 :=
  rdI_mem xs (fun x => 0 ≤ x ∧ x ≤ 1073741824) (by decide) (fun x hx => by have := (List.all_eq_true.1 h) x hx; simpa [inB] using this) k
def RetG (zs : List E32) (er : Int) (w : World) (e : Ending) (w' : World) : Prop := ∃ A c, e = .returned (.tuple #[.slice A zs.length c, .int .i64 er]) ∧ Fd w' A zs.length zs ∧ Below w.heap.size w w'
theorem RetG.nil {er : Int} {w : World} {e : Ending} {w' : World} (h : e = .returned (.tuple #[.slice none 0 0, .int .i64 er])) (hb : Below w.heap.size w w') : RetG [] er w e w' := ⟨none, 0, h, ⟨rfl, by simp, fun h => absurd h (by simp)⟩, hb⟩

theorem grown_cases (zs : List E32) (us : List Int) (m most : Int) : (rightF zs m = false ∧ grownE zs us m most = 130) ∨ (rightF zs m = true ∧ ¬ (us.length = zs.length ∧ inB most 1 1073741824 = true ∧ okAll us = true) ∧ grownE zs us m most = 1) ∨ (rightF zs m = true ∧ us.length = zs.length ∧ inB most 1 1073741824 = true ∧ okAll us = true ∧ grownE zs us m most = 0) := by
  unfold grownE
  cases h : rightF zs m
  · exact .inl ⟨rfl, rfl⟩
  · by_cases h2 : us.length = zs.length ∧ inB most 1 1073741824 = true ∧ okAll us = true
    · exact .inr (.inr ⟨rfl, h2.1, h2.2.1, h2.2.2, by simp [h2]⟩)
    · exact .inr (.inl ⟨rfl, h2, by simp [h2]⟩)
def grownR (zs : List E32) (us : List Int) (m most : Int) : List E32 := if grownE zs us m most = 0 then grownL zs us m most zs.length else []
set_option maxHeartbeats 1000000 in
theorem grown_bad (A : Option Addr) (n c : Nat) (zs : List E32) (B : Option Addr) (nb cb : Nat) (us : List Int) (m most : Int) (w : World) (hr : Fd w A n zs) (hb : Rd .i64 w B nb us) (hE : grownE zs us m most ≠ 0) :
    Calls Try.prog 20 #[.slice A n c, .slice B nb cb, .int .i64 m, .int .i64 most] w (RetG (grownR zs us m most) (grownE zs us m most) w) := by
  have hu49 := Try.underlying49
  have HR := Lib.hid hr
  have HB := Lib.hid hb
  rw [grownR, if_neg hE]
  have hn := hr.2.1
  have hnb := hb.2.1
  rcases grown_cases zs us m most with ⟨h1, h2⟩ | ⟨h1, h3, h2⟩ | ⟨_, _, _, _, h2⟩
  · rw [h2]
    clear hr hb hE h2
    go_enter Try.func20, Try.ntmps20
    go_wp2_with fail
    refine (right _ _ _ zs _ _ (Fd.below HR.out (by repeat (first | exact Below.refl _ _ | assumption | refine Below.drew ?_ | refine below_dN ?_ _ | refine Below.setCell ?_ (by first | omega | (simp; done) | (simp; omega)) _ | refine below_al ?_ (by first | omega | (simp; done) | (simp; omega)) _ | refine below_tr (by assumption) ?_ (by first | omega | (simp; done) | (simp; omega)))))).mono ?_
    rw [h1]
    rintro e w1 ⟨rfl, hb1⟩
    go_wp2
    go_ret2
    exact RetG.nil rfl (by repeat (first | exact Below.refl _ _ | assumption | refine Below.drew ?_ | refine below_dN ?_ _ | refine Below.setCell ?_ (by first | omega | (simp; done) | (simp; omega)) _ | refine below_al ?_ (by first | omega | (simp; done) | (simp; omega)) _ | refine below_tr (by assumption) ?_ (by first | omega | (simp; done) | (simp; omega))))
  · rw [h2]
    have h4 : ¬ ((nb : Int) = n ∧ 1 ≤ most ∧ most ≤ 1073741824 ∧ okAll us = true) := fun ⟨g1, g2, g3, g4⟩ => h3 ⟨by rw [hb.1, hr.1]; omega, by simp [inB]; omega, g4⟩
    clear hr hb hE h2 h3
    go_enter Try.func20, Try.ntmps20
    go_wp2_with fail
    refine (right _ _ _ zs _ _ (Fd.below HR.out (by repeat (first | exact Below.refl _ _ | assumption | refine Below.drew ?_ | refine below_dN ?_ _ | refine Below.setCell ?_ (by first | omega | (simp; done) | (simp; omega)) _ | refine below_al ?_ (by first | omega | (simp; done) | (simp; omega)) _ | refine below_tr (by assumption) ?_ (by first | omega | (simp; done) | (simp; omega)))))).mono ?_
    rw [h1]
    rintro e w1 ⟨rfl, hb1⟩
    go_wp2_with (first | (go_at_call 32; refine (ncontains _ _ _ us _ (Rd.below HB.out (by repeat (first | exact Below.refl _ _ | assumption | refine Below.drew ?_ | refine below_dN ?_ _ | refine Below.setCell ?_ (by first | omega | (simp; done) | (simp; omega)) _ | refine below_al ?_ (by first | omega | (simp; done) | (simp; omega)) _ | refine below_tr (by assumption) ?_ (by first | omega | (simp; done) | (simp; omega)))))).mono ?_; rintro e w' ⟨rfl, rfl⟩))
    all_goals first
      | (go_ret2; exact RetG.nil rfl (by repeat (first | exact Below.refl _ _ | assumption | refine Below.drew ?_ | refine below_dN ?_ _ | refine Below.setCell ?_ (by first | omega | (simp; done) | (simp; omega)) _ | refine below_al ?_ (by first | omega | (simp; done) | (simp; omega)) _ | refine below_tr (by assumption) ?_ (by first | omega | (simp; done) | (simp; omega)))))
      | (exfalso; apply h4; refine ⟨by omega, by omega, by omega, by first | assumption | (simpa using ‹(!okAll us) = false›) | (have := ‹(1 ≤ most ∧ most ≤ 1073741824) ∧ (!okAll us) = false›.2; simpa using this)⟩)
  · exact absurd h2 hE
set_option maxHeartbeats 1000000 in
theorem rgrown_bad1 (A : Option Addr) (n c : Nat) (zs : List E32) (B : Option Addr) (nb cb : Nat) (us : List Int) (m most : Int) (w : World) (hr : Fd w A n zs) (h1 : rightF zs m = false) :
    Calls Try.prog 21 #[.slice A n c, .slice B nb cb, .int .i64 m, .int .i64 most] w (RetG [] 130 w) := by
  have HR := Lib.hid hr
  have hcv : checkV zs m = 130 := by unfold checkV; rw [h1]; rfl
  clear hr
  go_enter Try.func21, Try.ntmps21
  go_wp2_with fail
  refine (rcheck _ _ _ zs _ _ HR.out).mono ?_
  rw [hcv]
  rintro e w1 ⟨rfl, rfl⟩
  go_wp2
  go_ret2
  exact RetG.nil rfl (by repeat (first | exact Below.refl _ _ | assumption | refine Below.drew ?_ | refine below_dN ?_ _ | refine Below.setCell ?_ (by first | omega | (simp; done) | (simp; omega)) _ | refine below_al ?_ (by first | omega | (simp; done) | (simp; omega)) _ | refine below_tr (by assumption) ?_ (by first | omega | (simp; done) | (simp; omega))))
set_option maxHeartbeats 1000000 in
theorem rgrown_bad2 (A : Option Addr) (n c : Nat) (zs : List E32) (B : Option Addr) (nb cb : Nat) (us : List Int) (m most : Int) (w : World) (hr : Fd w A n zs) (hb : Rd .i64 w B nb us) (h1 : rightF zs m = true) (h2 : ¬ (us.length = zs.length ∧ inB most 1 1073741824 = true)) :
    Calls Try.prog 21 #[.slice A n c, .slice B nb cb, .int .i64 m, .int .i64 most] w (RetG [] 1 w) := by
  have HR := Lib.hid hr
  have hcv : checkV zs m = 0 := by unfold checkV; rw [h1]; rfl
  have hn := hr.2.1
  have hnb := hb.2.1
  have h4 : ¬ ((nb : Int) = n ∧ inB most 1 1073741824 = true) := fun ⟨g1, g2⟩ => h2 ⟨by rw [hb.1, hr.1]; omega, g2⟩
  clear hr hb h2
  go_enter Try.func21, Try.ntmps21
  go_wp2_with fail
  refine (rcheck _ _ _ zs _ _ HR.out).mono ?_
  rw [hcv]
  rintro e w1 ⟨rfl, rfl⟩
  go_wp2_with (first | (go_at_call 27; refine (window _ _).mono ?_; rintro e w' ⟨rfl, rfl⟩))
  all_goals first
    | (go_ret2; exact RetG.nil rfl (by repeat (first | exact Below.refl _ _ | assumption | refine Below.drew ?_ | refine below_dN ?_ _ | refine Below.setCell ?_ (by first | omega | (simp; done) | (simp; omega)) _ | refine below_al ?_ (by first | omega | (simp; done) | (simp; omega)) _ | refine below_tr (by assumption) ?_ (by first | omega | (simp; done) | (simp; omega)))))
    | (exfalso; apply h4; refine ⟨by omega, by first | assumption | (simpa using ‹(!inB most 1 1073741824) = false›)⟩)
