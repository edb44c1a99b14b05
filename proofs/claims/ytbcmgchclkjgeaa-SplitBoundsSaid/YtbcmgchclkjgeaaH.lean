/- May, of both; a slice copied; Put, of both. -/
import Derived.Test.YtbcmgchclkjgeaaG
import Derived.Laws.AppendOwnNone
import Derived.Maps.AppendAt
namespace Go.Proofs.Ytbcmgchclkjgeaa.C
open Go.RowKit
set_option linter.unusedVariables false
set_option linter.unusedSimpArgs false
attribute [local go_sem high] max2_mx min2_mn max_two min_two
attribute [local go_sem ↓] Go.wp_at_zero Go.wp_at_succ

def mayE (b p m path : Int) (xs : List Int) : Int := if checkF b p m xs = 0 then (if inB path 0 (p - 1) = true then 0 else 5) else checkF b p m xs
def mayV (b p m path : Int) (xs : List Int) : Bool := if mayE b p m path xs = 0 then decide (rdI xs path.toNat < ceilB b p) else false
theorem check_good {b p m : Int} {xs : List Int} (h : checkF b p m xs = 0) : 1 ≤ b ∧ b ≤ 1073741824 ∧ 1 ≤ p ∧ p ≤ 8 ∧ 100 ≤ m ∧ m ≤ 1500 ∧ (xs.length : Int) = p ∧ (∀ x ∈ xs, 0 ≤ x ∧ x ≤ 1073741824) ∧ mayB b p m = true := by
  unfold checkF at h
  by_cases h1 : mayB b p m = true
  · rw [if_pos h1] at h
    by_cases h2 : (xs.length : Int) = p ∧ okAll xs = true
    · have hb := h1
      unfold mayB at hb
      simp only [Bool.and_eq_true] at hb
      obtain ⟨g1, g2, g3⟩ := hb
      have b1 := inB_t g1
      have b2 := inB_t g2
      have b3 := inB_t g3
      have hok := h2.2
      unfold okAll at hok
      rw [List.all_eq_true] at hok
      exact ⟨b1.1, b1.2, b2.1, b2.2, b3.1, b3.2, h2.1, fun x hx => inB_t (hok x hx), h1⟩
    · rw [if_neg h2] at h; omega
  · rw [if_neg h1] at h; omega
theorem mayE_bad {b p m path : Int} {xs : List Int} (h : checkF b p m xs ≠ 0) : mayE b p m path xs = checkF b p m xs ∧ mayV b p m path xs = false := by
  have h1 : mayE b p m path xs = checkF b p m xs := by unfold mayE; rw [if_neg h]
  exact ⟨h1, by unfold mayV; rw [h1, if_neg h]⟩
theorem mayE_far {b p m path : Int} {xs : List Int} (h : checkF b p m xs = 0) (hp : inB path 0 (p - 1) = false) : mayE b p m path xs = 5 ∧ mayV b p m path xs = false := by
  have h1 : mayE b p m path xs = 5 := by unfold mayE; rw [if_pos h, if_neg (by rw [hp]; simp)]
  exact ⟨h1, by unfold mayV; rw [h1, if_neg (by decide)]⟩
theorem mayE_ok {b p m path : Int} {xs : List Int} (h : checkF b p m xs = 0) (hp : inB path 0 (p - 1) = true) : mayE b p m path xs = 0 ∧ mayV b p m path xs = decide (rdI xs path.toNat < ceilB b p) := by
  have h1 : mayE b p m path xs = 0 := by unfold mayE; rw [if_pos h, if_pos hp]
  exact ⟨h1, by unfold mayV; rw [h1, if_pos rfl]⟩
theorem ret_bi {a a' : Bool} {b b' : Int} (h : a = a') (h' : b = b') : Ending.returned (.tuple #[.bool a, .int .i64 b]) = .returned (.tuple #[.bool a', .int .i64 b']) := by rw [h, h']

set_option maxHeartbeats 2000000 in
set_option maxRecDepth 100000 in
theorem pmay (b p m path : Int) (A : Option Addr) (n c : Nat) (xs : List Int) (w : World) (hr : Rd .i64 w A n xs) :
    Calls Try.prog 11 #[.agg #[.int .i64 b, .int .i64 p, .int .i64 m], .int .i64 path, .slice A n c] w fun e w' => e = .returned (.tuple #[.bool (mayV b p m path xs), .int .i64 (mayE b p m path xs)]) ∧ Below w.heap.size w w' := by
  have hu23 := Try.underlying23
  have HR := Lib.hid hr
  clear hr
  by_cases h : checkF b p m xs = 0
  · obtain ⟨b0, b1, p0, p1, m0, m1, hlen, hx, _⟩ := check_good h
    have HX := Lib.hid hx
    have HLEN := Lib.hid hlen
    have hln : (n : Int) = p := by have := HR.out.1; omega
    have HLN := Lib.hid hln
    clear hx hlen hln
    cases hp : inB path 0 (p - 1)
    · have HE := Lib.hid (mayE_far (path := path) h hp)
      go_enter Try.func11, Try.ntmps11
      go_wp2_with fail
      refine (check _ _ _ _ _ _ _ _ (Rd.below HR.out (by repeat (first | exact Below.refl _ _ | assumption | refine Below.drew ?_ | refine below_dN ?_ _ | refine Below.setCell ?_ (by first | omega | (simp; done) | (simp; omega)) _ | refine below_al ?_ (by first | omega | (simp; done) | (simp; omega)) _ | refine below_tr (by assumption) ?_ (by first | omega | (simp; done) | (simp; omega)))))).mono ?_
      rintro e w1 ⟨rfl, hb1⟩
      obtain ⟨hc1, hf1⟩ := bcell hb1
      go_wp2_with (go_at_call 26; refine (within _ _ _ _).mono ?_; rintro e w' ⟨rfl, rfl⟩)
      go_ret2
      exact ⟨ret_bi HE.out.2.symm HE.out.1.symm, (by repeat (first | exact Below.refl _ _ | assumption | refine Below.drew ?_ | refine below_dN ?_ _ | refine Below.setCell ?_ (by first | omega | (simp; done) | (simp; omega)) _ | refine below_al ?_ (by first | omega | (simp; done) | (simp; omega)) _ | refine below_tr (by assumption) ?_ (by first | omega | (simp; done) | (simp; omega))))⟩
    · have HE := Lib.hid (mayE_ok (path := path) h hp)
      obtain ⟨k0, k1⟩ := inB_t hp
      obtain ⟨k, rfl⟩ := Int.eq_ofNat_of_zero_le k0
      have hkn : k < n := by have := HLN.out; omega
      obtain ⟨ad, rfl, hcell⟩ := HR.out.2.2 (by omega)
      have hck := hcell k hkn
      have hk3 := World.block_lt_of_cell? w _ hck
      have hk3' : ad.block < w.heap.size := by rw [block_add] at hk3; exact hk3
      have hk4 : (0 : Int) ≤ (k : Int) := by omega
      have hk5 : (k : Int) < (n : Int) := by omega
      have cb := ceil_range b p (by omega) b1 p0 p1
      clear hcell
      go_enter Try.func11, Try.ntmps11
      go_wp2_with fail
      refine (check _ _ _ _ _ _ _ _ (Rd.below HR.out (by repeat (first | exact Below.refl _ _ | assumption | refine Below.drew ?_ | refine below_dN ?_ _ | refine Below.setCell ?_ (by first | omega | (simp; done) | (simp; omega)) _ | refine below_al ?_ (by first | omega | (simp; done) | (simp; omega)) _ | refine below_tr (by assumption) ?_ (by first | omega | (simp; done) | (simp; omega)))))).mono ?_
      rintro e w1 ⟨rfl, hb1⟩
      obtain ⟨hc1, hf1⟩ := bcell hb1
      have hs1 : w.heap.size < w1.heap.size := by have := hb1.size; simp at this; omega
      have q0 : w1.cell? ⟨w.heap.size, 0, none⟩ = some (.int .i64 b) := by simp [go_sem, hc1]
      have q1 : w1.cell? ⟨w.heap.size, 1, none⟩ = some (.int .i64 p) := by simp [go_sem, hc1]
      have hB1 : Below w.heap.size w w1 := (by repeat (first | exact Below.refl _ _ | assumption | refine Below.drew ?_ | refine below_dN ?_ _ | refine Below.setCell ?_ (by first | omega | (simp; done) | (simp; omega)) _ | refine below_al ?_ (by first | omega | (simp; done) | (simp; omega)) _ | refine below_tr (by assumption) ?_ (by first | omega | (simp; done) | (simp; omega))))
      have q2 : w1.cell? (ad.add k) = some (.int .i64 (rdI xs k)) := by rw [hB1.cell hk3]; exact hck
      have hk6 : ad.block < w1.heap.size := by omega
      have hk7 : (ad.add k).block < w1.heap.size := by omega
      go_wp2_with (go_at_call 26; refine (within _ _ _ _).mono ?_; rintro e w' ⟨rfl, rfl⟩)
      clear hc1 hf1 hck
      go_region_held3 (fun w' => Below w1.heap.size w1 w' ∧ ∀ a : Addr, a.block < w1.heap.size → w'.cell? a = w1.cell? a) (first | exact keep0 _ | assumption | exact keepB (by repeat (first | exact Below.refl _ _ | assumption | refine Below.drew ?_ | refine below_dN ?_ _ | refine Below.setCell ?_ (by first | omega | (simp; done) | (simp; omega)) _ | refine below_al ?_ (by first | omega | (simp; done) | (simp; omega)) _ | refine below_tr (by assumption) ?_ (by first | omega | (simp; done) | (simp; omega)))) | exact keep1 (by assumption) (by first | assumption | exact (Below.refl _ _).drew | exact And.left (by assumption)) (by first | omega | (simp; done) | (simp; omega))) (first | (go_at_call 23; refine (share _ _ _ (by omega) (by omega) (by omega) (by omega)).mono ?_; rintro e w' ⟨rfl, rfl⟩))
      go_wp2
      go_ret2
      exact ⟨ret_bi (by rw [HE.out.2]; rfl) HE.out.1.symm, hB1.trans (Below.mono (And.left ‹Below w1.heap.size w1 _ ∧ _›) hB1.size)⟩
  · have HE := Lib.hid (mayE_bad (path := path) h)
    have h' : (checkF b p m xs != 0) = true := by simpa using h
    clear h
    go_enter Try.func11, Try.ntmps11
    go_wp2_with fail
    refine (check _ _ _ _ _ _ _ _ (Rd.below HR.out (by repeat (first | exact Below.refl _ _ | assumption | refine Below.drew ?_ | refine below_dN ?_ _ | refine Below.setCell ?_ (by first | omega | (simp; done) | (simp; omega)) _ | refine below_al ?_ (by first | omega | (simp; done) | (simp; omega)) _ | refine below_tr (by assumption) ?_ (by first | omega | (simp; done) | (simp; omega)))))).mono ?_
    rintro e w1 ⟨rfl, hb1⟩
    go_wp2
    go_ret2
    exact ⟨ret_bi HE.out.2.symm HE.out.1.symm, (by repeat (first | exact Below.refl _ _ | assumption | refine Below.drew ?_ | refine below_dN ?_ _ | refine Below.setCell ?_ (by first | omega | (simp; done) | (simp; omega)) _ | refine below_al ?_ (by first | omega | (simp; done) | (simp; omega)) _ | refine below_tr (by assumption) ?_ (by first | omega | (simp; done) | (simp; omega))))⟩
set_option maxHeartbeats 2000000 in
set_option maxRecDepth 100000 in
theorem qmay (b p m path : Int) (A : Option Addr) (n c : Nat) (xs : List Int) (w : World) (hr : Rd .i64 w A n xs) :
    Calls Try.prog 19 #[.agg #[.int .i64 b, .int .i64 p, .int .i64 m], .int .i64 path, .slice A n c] w fun e w' => e = .returned (.tuple #[.bool (mayV b p m path xs), .int .i64 (mayE b p m path xs)]) ∧ Below w.heap.size w w' := by
  have hu23 := Try.underlying23
  have HR := Lib.hid hr
  clear hr
  by_cases h : checkF b p m xs = 0
  · obtain ⟨b0, b1, p0, p1, m0, m1, hlen, hx, _⟩ := check_good h
    have HX := Lib.hid hx
    have HLEN := Lib.hid hlen
    have hln : (n : Int) = p := by have := HR.out.1; omega
    have HLN := Lib.hid hln
    clear hx hlen hln
    cases hp : inB path 0 (p - 1)
    · have HE := Lib.hid (mayE_far (path := path) h hp)
      go_enter Try.func19, Try.ntmps19
      go_wp2_with fail
      refine (rcheck _ _ _ _ _ _ _ _ (Rd.below HR.out (by repeat (first | exact Below.refl _ _ | assumption | refine Below.drew ?_ | refine below_dN ?_ _ | refine Below.setCell ?_ (by first | omega | (simp; done) | (simp; omega)) _ | refine below_al ?_ (by first | omega | (simp; done) | (simp; omega)) _ | refine below_tr (by assumption) ?_ (by first | omega | (simp; done) | (simp; omega)))))).mono ?_
      rintro e w1 ⟨rfl, hb1⟩
      obtain ⟨hc1, hf1⟩ := bcell hb1
      have hf := inB_f hp
      by_cases h0 : path < 0
      all_goals
        go_wp2
        go_ret2
        exact ⟨ret_bi HE.out.2.symm HE.out.1.symm, (by repeat (first | exact Below.refl _ _ | assumption | refine Below.drew ?_ | refine below_dN ?_ _ | refine Below.setCell ?_ (by first | omega | (simp; done) | (simp; omega)) _ | refine below_al ?_ (by first | omega | (simp; done) | (simp; omega)) _ | refine below_tr (by assumption) ?_ (by first | omega | (simp; done) | (simp; omega))))⟩
    · have HE := Lib.hid (mayE_ok (path := path) h hp)
      obtain ⟨k0, k1⟩ := inB_t hp
      obtain ⟨k, rfl⟩ := Int.eq_ofNat_of_zero_le k0
      have hkn : k < n := by have := HLN.out; omega
      obtain ⟨ad, rfl, hcell⟩ := HR.out.2.2 (by omega)
      have hck := hcell k hkn
      have hk3 := World.block_lt_of_cell? w _ hck
      have hk3' : ad.block < w.heap.size := by rw [block_add] at hk3; exact hk3
      have hk4 : (0 : Int) ≤ (k : Int) := by omega
      have hk5 : (k : Int) < (n : Int) := by omega
      have cb := ceil_range b p (by omega) b1 p0 p1
      clear hcell
      go_enter Try.func19, Try.ntmps19
      go_wp2_with fail
      refine (rcheck _ _ _ _ _ _ _ _ (Rd.below HR.out (by repeat (first | exact Below.refl _ _ | assumption | refine Below.drew ?_ | refine below_dN ?_ _ | refine Below.setCell ?_ (by first | omega | (simp; done) | (simp; omega)) _ | refine below_al ?_ (by first | omega | (simp; done) | (simp; omega)) _ | refine below_tr (by assumption) ?_ (by first | omega | (simp; done) | (simp; omega)))))).mono ?_
      rintro e w1 ⟨rfl, hb1⟩
      obtain ⟨hc1, hf1⟩ := bcell hb1
      have hs1 : w.heap.size < w1.heap.size := by have := hb1.size; simp at this; omega
      have q0 : w1.cell? ⟨w.heap.size, 0, none⟩ = some (.int .i64 b) := by simp [go_sem, hc1]
      have q1 : w1.cell? ⟨w.heap.size, 1, none⟩ = some (.int .i64 p) := by simp [go_sem, hc1]
      have hB1 : Below w.heap.size w w1 := (by repeat (first | exact Below.refl _ _ | assumption | refine Below.drew ?_ | refine below_dN ?_ _ | refine Below.setCell ?_ (by first | omega | (simp; done) | (simp; omega)) _ | refine below_al ?_ (by first | omega | (simp; done) | (simp; omega)) _ | refine below_tr (by assumption) ?_ (by first | omega | (simp; done) | (simp; omega))))
      have q2 : w1.cell? (ad.add k) = some (.int .i64 (rdI xs k)) := by rw [hB1.cell hk3]; exact hck
      have hk6 : ad.block < w1.heap.size := by omega
      have hk7 : (ad.add k).block < w1.heap.size := by omega
      go_wp2_with fail
      clear hc1 hf1 hck
      go_region_held3 (fun w' => Below w1.heap.size w1 w' ∧ ∀ a : Addr, a.block < w1.heap.size → w'.cell? a = w1.cell? a) (first | exact keep0 _ | assumption | exact keepB (by repeat (first | exact Below.refl _ _ | assumption | refine Below.drew ?_ | refine below_dN ?_ _ | refine Below.setCell ?_ (by first | omega | (simp; done) | (simp; omega)) _ | refine below_al ?_ (by first | omega | (simp; done) | (simp; omega)) _ | refine below_tr (by assumption) ?_ (by first | omega | (simp; done) | (simp; omega)))) | exact keep1 (by assumption) (by first | assumption | exact (Below.refl _ _).drew | exact And.left (by assumption)) (by first | omega | (simp; done) | (simp; omega))) (first | (go_at_call 27; refine (part _ _ _ (by omega) (by omega) (by omega) (by omega)).mono ?_; rintro e w' ⟨rfl, rfl⟩))
      go_wp2
      go_ret2
      exact ⟨ret_bi (by rw [HE.out.2]; rfl) HE.out.1.symm, hB1.trans (Below.mono (And.left ‹Below w1.heap.size w1 _ ∧ _›) hB1.size)⟩
  · have HE := Lib.hid (mayE_bad (path := path) h)
    have h' : (checkF b p m xs != 0) = true := by simpa using h
    clear h
    go_enter Try.func19, Try.ntmps19
    go_wp2_with fail
    refine (rcheck _ _ _ _ _ _ _ _ (Rd.below HR.out (by repeat (first | exact Below.refl _ _ | assumption | refine Below.drew ?_ | refine below_dN ?_ _ | refine Below.setCell ?_ (by first | omega | (simp; done) | (simp; omega)) _ | refine below_al ?_ (by first | omega | (simp; done) | (simp; omega)) _ | refine below_tr (by assumption) ?_ (by first | omega | (simp; done) | (simp; omega)))))).mono ?_
    rintro e w1 ⟨rfl, hb1⟩
    go_wp2
    go_ret2
    exact ⟨ret_bi HE.out.2.symm HE.out.1.symm, (by repeat (first | exact Below.refl _ _ | assumption | refine Below.drew ?_ | refine below_dN ?_ _ | refine Below.setCell ?_ (by first | omega | (simp; done) | (simp; omega)) _ | refine below_al ?_ (by first | omega | (simp; done) | (simp; omega)) _ | refine below_tr (by assumption) ?_ (by first | omega | (simp; done) | (simp; omega))))⟩

/-! ### a slice copied -/
section
variable {P : Program} {ops : Array Oper} {rest : List Oper} {o : Oper} {a : Act} {Q : Exit → Act → World → Prop} {w : World}
theorem wpList_append_rd (hgd : o.guard = none) (s x : Operand) (t : TypeId)
    (ho : o.op = .call { callee := .builtin .append, args := #[s, x], argTypes := #[t, t] })
    (base : Nat) (e : TypeId) (i : TypeInfo) (ht : P.underlying t = some (.slice e)) (hi : P.info? e = some i) (hz : i.zero = some (.int .i64 0))
    (hsize : i.size = 1) (hby : i.bytes = 8)
    (v : Value) (n : Nat) (ys : List Int) (hs : a.eval s = v) (hown : w.ownsRow base e 1 v n (nums ys))
    (A : Option Addr) (m c : Nat) (xs : List Int) (hx : a.eval x = .slice A m c) (hr : Rd .i64 w A m xs) (hA : A = none → c = 0)
    (hbytes : (n + m) * 8 ≤ 140737488355328) (hbase : base ≤ w.heap.size)
    (h : ∀ v' w', w'.ownsRow base e 1 v' (n + m) (nums (ys ++ xs)) → w.grownBy w' v.ownBlock → wpList P ops Q rest (a.put o.dst v') w') : wpList P ops Q (o :: rest) a w := by
  have hnums : nums (ys ++ xs) = nums ys ++ nums xs := by simp [nums]
  cases A with
  | none =>
    obtain rfl := hA rfl
    have hm : m = 0 := by
      rcases Nat.eq_zero_or_pos m with h0 | h0
      · exact h0
      · obtain ⟨ad, h1, _⟩ := hr.2.2 h0
        cases h1
    subst hm
    have hxs : xs = [] := List.eq_nil_of_length_eq_zero hr.1
    subst hxs
    refine wpList_append_own_none hgd s x t ho base e i 1 ht hi v n (nums ys) hs hown hx (h v w (by simpa using hown) (World.grownBy.refl w _))
  | some ad =>
    refine wpList_append_own_at w hgd s x t ho base e i (.int .i64 0) 1 8 ht hi hz hsize hby rfl (by omega) v n (nums ys) hs hown ad m c (nums xs) hx (by simp [nums, hr.1]) (fun j u hu => ?_) (by simp [nums, Value.oneCell']) (by simp only [maxLen]; omega) hbytes hbase ?_
    · simp [nums] at hu
      obtain ⟨y, hy, rfl⟩ := hu
      have hj : j < xs.length := by
        rcases Nat.lt_or_ge j xs.length with h0 | h0
        · exact h0
        · rw [List.getElem?_eq_none h0] at hy; cases hy
      obtain ⟨ad', h1, h2⟩ := hr.2.2 (by have := hr.1; omega)
      obtain rfl := Option.some.inj h1
      rw [h2 j (by have := hr.1; omega)]
      simp [rdI, hy]
    · intro v' w' h1 h2 _ _
      exact h v' w' (by rw [hnums]; exact h1) h2
end
/-- an empty row that was just made -/
theorem own_empty (W : World) (base : Nat) (e : TypeId) (hb : base ≤ W.heap.size) : (W.alloc (.cells #[] e)).ownsRow base e 1 (.slice (some ⟨W.heap.size, 0, none⟩) 0 0) 0 (nums []) :=
  ⟨rfl, .inr ⟨_, 0, #[], rfl, hb, heap_alloc_new W _, Nat.le_refl _, by decide, rfl, rfl⟩⟩
def RetS (xs : List Int) (w : World) (e : Ending) (w' : World) : Prop := ∃ g c, e = .returned (.slice (some ⟨g, 0, none⟩) xs.length c) ∧ w'.ownsRow w.heap.size 3 1 (.slice (some ⟨g, 0, none⟩) xs.length c) xs.length (nums xs) ∧ Below w.heap.size w w'
theorem own_some {w : World} {base : Nat} {e : TypeId} {v : Value} {n : Nat} {xs : List Value} (h : w.ownsRow base e 1 v n xs) (h0 : 0 < n) : ∃ g c, v = .slice (some ⟨g, 0, none⟩) n c := by
  rcases h.2 with ⟨_, h1⟩ | ⟨g, cap, cur, rfl, _⟩
  · omega
  · exact ⟨g, cap, rfl⟩
set_option maxHeartbeats 1000000 in
theorem clone (A : Option Addr) (n c : Nat) (xs : List Int) (w : World) (hr : Rd .i64 w A n xs) (h0 : 0 < n) (hn : n * 8 ≤ 140737488351232) :
    Calls Try.prog 30 #[.slice A n c] w (RetS xs w) := by
  obtain ⟨i0, hi0, hz0, hz1, hz2⟩ := info_parts info3
  have heq := fun (W : World) => Lib.run_eql_slice_nil (P := Try.prog) W 29 3 A n c 0 0 Try.underlying29
  have hA : A.isNone = false := by obtain ⟨ad, rfl, _⟩ := hr.2.2 h0; rfl
  have hA2 : A = none → c = 0 := fun h => by rw [h] at hA; cases hA
  have HR := Lib.hid hr
  have HA2 := Lib.hid hA2
  clear hr hA2
  go_enter Try.func30, Try.ntmps30
  go_wp2_with (at_builtin; refine wpList_append_rd rfl _ _ _ rfl w.heap.size 3 i0 Try.underlying29 hi0 hz0 hz1 hz2 _ 0 [] rfl (own_empty w w.heap.size 3 (Nat.le_refl _)) A n c xs rfl (Rd.below HR.out (by repeat (first | exact Below.refl _ _ | assumption | refine Below.drew ?_ | refine below_dN ?_ _ | refine Below.setCell ?_ (by first | omega | (simp; done) | (simp; omega)) _ | refine below_al ?_ (by first | omega | (simp; done) | (simp; omega)) _ | refine below_tr (by assumption) ?_ (by first | omega | (simp; done) | (simp; omega))))) HA2.out (by omega) (by simp) ?_; intro v' w' hown hg)
  have hl : xs.length = n := HR.out.1
  have h1 : w'.ownsRow w.heap.size 3 1 v' n (nums xs) := by simpa using hown
  have hB : Below w.heap.size w w' := below_app (W := w.alloc (.cells #[] 3)) (by repeat (first | exact Below.refl _ _ | assumption | refine Below.drew ?_ | refine below_dN ?_ _ | refine Below.setCell ?_ (by first | omega | (simp; done) | (simp; omega)) _ | refine below_al ?_ (by first | omega | (simp; done) | (simp; omega)) _ | refine below_tr (by assumption) ?_ (by first | omega | (simp; done) | (simp; omega)))) (by simp) (own_empty w w.heap.size 3 (Nat.le_refl _)) hg
  clear hown hg heq
  obtain ⟨g, c', rfl⟩ := own_some h1 h0
  subst hl
  go_ret
  exact ⟨g, c', rfl, h1, hB⟩
/-- a cell of a row of the call's own: it holds what it holds, it may be written, and behind that the row reads so -/
theorem own_cell {w : World} {base g n c : Nat} {e : TypeId} {xs : List Int} (h : w.ownsRow base e 1 (.slice (some ⟨g, 0, none⟩) n c) n (nums xs)) (k : Nat) (hk : k < n) :
    w.cell? ((⟨g, 0, none⟩ : Addr).add k) = some (.int .i64 (rdI xs k)) ∧ w.frozen? ((⟨g, 0, none⟩ : Addr).add k) = false ∧ base ≤ g ∧ g < w.heap.size ∧
      ∀ y, Rd .i64 (w.setCell ((⟨g, 0, none⟩ : Addr).add k) (.int .i64 y)) (some ⟨g, 0, none⟩) n (xs.set k y) := by
  have hl : xs.length = n := by have := h.1; simp [nums] at this; exact this
  have hc : ∀ j, j < n → w.cell? ((⟨g, 0, none⟩ : Addr).add j) = some (.int .i64 (rdI xs j)) := fun j hj => h.cells (g := g) rfl j _ (by simp [nums, rdI, List.getElem?_eq_getElem (show j < xs.length by omega)])
  rcases h.2 with ⟨h1, _⟩ | ⟨g', cap, cur, h1, hb, hh, hcap, hm, _⟩
  · cases h1
  injection h1 with h1 h2 h3
  obtain rfl : g = g' := by injection h1 with h1; injection h1
  have hlt : g < w.heap.size := (Array.getElem?_eq_some_iff.1 hh).1
  refine ⟨hc k hk, ?_, hb, hlt, fun y => ⟨by simpa using hl, by simp only [maxLen] at hm; omega, fun _ => ⟨_, rfl, fun j hj => ?_⟩⟩⟩
  · rw [add_plain]; simp [World.frozen?, hh]
  · have hcj := hc j hj
    have hck := hc k hk
    rw [add_plain] at hcj hck ⊢
    rw [add_plain]
    by_cases hjk : j = k
    · subst hjk
      rw [World.cell?_setCell_same w _ _ hck]
      simp [rdI, hl, hk]
    · rw [World.cell?_setCell_other w _ _ _ (by intro he; injection he with _ he; exact hjk he.symm)]
      rw [hcj]
      simp [rdI, List.getElem?_set, Ne.symm hjk]

/-! ### Put -/
def putE (b p m path size : Int) (xs : List Int) : Int := if mayE b p m path xs = 0 then (if inB size 1 m = true then (if mayV b p m path xs = true then 0 else 141) else 5) else mayE b p m path xs
def putL (b p m path size : Int) (xs : List Int) : List Int := if putE b p m path size xs = 0 then xs.set path.toNat (rdI xs path.toNat + size) else []
theorem RetL.mk' {xs : List Int} {n c : Nat} {A : Option Addr} {err : Int} {w w' : World} {e : Ending} (hl : xs.length = n) (he : e = .returned (.tuple #[.slice A n c, .int .i64 err])) (hr : Rd .i64 w' A n xs) (hb : Below w.heap.size w w') : RetL xs err w e w' :=
  ⟨A, c, by rw [hl]; exact he, by rw [hl]; exact hr, hb⟩
theorem putE_cases (b p m path size : Int) (xs : List Int) :
    (mayE b p m path xs ≠ 0 ∧ putE b p m path size xs = mayE b p m path xs ∧ putL b p m path size xs = []) ∨
    (mayE b p m path xs = 0 ∧ inB size 1 m = false ∧ putE b p m path size xs = 5 ∧ putL b p m path size xs = []) ∨
    (mayE b p m path xs = 0 ∧ inB size 1 m = true ∧ mayV b p m path xs = false ∧ putE b p m path size xs = 141 ∧ putL b p m path size xs = []) ∨
    (mayE b p m path xs = 0 ∧ inB size 1 m = true ∧ mayV b p m path xs = true ∧ putE b p m path size xs = 0 ∧ putL b p m path size xs = xs.set path.toNat (rdI xs path.toNat + size)) := by
  by_cases h : mayE b p m path xs = 0
  · cases h1 : inB size 1 m
    · have : putE b p m path size xs = 5 := by unfold putE; rw [if_pos h, h1]; rfl
      exact .inr (.inl ⟨h, rfl, this, by unfold putL; rw [this]; rfl⟩)
    · cases h2 : mayV b p m path xs
      · have : putE b p m path size xs = 141 := by unfold putE; rw [if_pos h, h1, h2]; rfl
        exact .inr (.inr (.inl ⟨h, rfl, rfl, this, by unfold putL; rw [this]; rfl⟩))
      · have : putE b p m path size xs = 0 := by unfold putE; rw [if_pos h, h1, h2]; rfl
        exact .inr (.inr (.inr ⟨h, rfl, rfl, this, by unfold putL; rw [this]; rfl⟩))
  · have : putE b p m path size xs = mayE b p m path xs := by unfold putE; rw [if_neg h]
    exact .inl ⟨h, this, by unfold putL; rw [this, if_neg h]⟩
theorem may_good {b p m path : Int} {xs : List Int} (h : mayE b p m path xs = 0) : checkF b p m xs = 0 ∧ 0 ≤ path ∧ path < p := by
  unfold mayE at h
  by_cases h1 : checkF b p m xs = 0
  · rw [if_pos h1] at h
    by_cases h2 : inB path 0 (p - 1) = true
    · have := inB_t h2
      exact ⟨h1, by omega, by omega⟩
    · rw [if_neg h2] at h; omega
  · rw [if_neg h1] at h; exact absurd h h1
set_option maxHeartbeats 2000000 in
theorem put (b p m path size : Int) (A : Option Addr) (n c : Nat) (xs : List Int) (w : World) (hr : Rd .i64 w A n xs) (hs0 : -9223372036854775808 ≤ size) (hs1 : size ≤ 9223372036854775807) :
    Calls Try.prog 20 #[.agg #[.int .i64 b, .int .i64 p, .int .i64 m], .int .i64 path, .int .i64 size, .slice A n c] w (RetL (putL b p m path size xs) (putE b p m path size xs) w) := by
  have hu23 := Try.underlying23
  have HR := Lib.hid hr
  clear hr
  rcases putE_cases b p m path size xs with ⟨h1, h2, h3⟩ | ⟨h1, h2, h3, h4⟩ | ⟨h1, h2, h3, h4, h5⟩ | ⟨h1, h2, h3, h4, h5⟩
  · have h' : (mayE b p m path xs != 0) = true := by simpa using h1
    rw [h3, h2]
    clear h1 h2 h3
    go_enter Try.func20, Try.ntmps20
    go_wp2_with fail
    refine (pmay _ _ _ _ _ _ _ _ _ (Rd.below HR.out (by repeat (first | exact Below.refl _ _ | assumption | refine Below.drew ?_ | refine below_dN ?_ _ | refine Below.setCell ?_ (by first | omega | (simp; done) | (simp; omega)) _ | refine below_al ?_ (by first | omega | (simp; done) | (simp; omega)) _ | refine below_tr (by assumption) ?_ (by first | omega | (simp; done) | (simp; omega)))))).mono ?_
    rintro e w1 ⟨rfl, hb1⟩
    go_wp2
    go_ret2
    exact RetL.nil rfl (by repeat (first | exact Below.refl _ _ | assumption | refine Below.drew ?_ | refine below_dN ?_ _ | refine Below.setCell ?_ (by first | omega | (simp; done) | (simp; omega)) _ | refine below_al ?_ (by first | omega | (simp; done) | (simp; omega)) _ | refine below_tr (by assumption) ?_ (by first | omega | (simp; done) | (simp; omega))))
  · rw [h4, h3]
    clear h3 h4
    go_enter Try.func20, Try.ntmps20
    go_wp2_with fail
    refine (pmay _ _ _ _ _ _ _ _ _ (Rd.below HR.out (by repeat (first | exact Below.refl _ _ | assumption | refine Below.drew ?_ | refine below_dN ?_ _ | refine Below.setCell ?_ (by first | omega | (simp; done) | (simp; omega)) _ | refine below_al ?_ (by first | omega | (simp; done) | (simp; omega)) _ | refine below_tr (by assumption) ?_ (by first | omega | (simp; done) | (simp; omega)))))).mono ?_
    rintro e w1 ⟨rfl, hb1⟩
    obtain ⟨hc1, hf1⟩ := bcell hb1
    go_wp2_with (go_at_call 26; refine (within _ _ _ _).mono ?_; rintro e w' ⟨rfl, rfl⟩)
    go_ret2
    exact RetL.nil rfl (by repeat (first | exact Below.refl _ _ | assumption | refine Below.drew ?_ | refine below_dN ?_ _ | refine Below.setCell ?_ (by first | omega | (simp; done) | (simp; omega)) _ | refine below_al ?_ (by first | omega | (simp; done) | (simp; omega)) _ | refine below_tr (by assumption) ?_ (by first | omega | (simp; done) | (simp; omega))))
  · rw [h5, h4]
    clear h5 h4
    go_enter Try.func20, Try.ntmps20
    go_wp2_with fail
    refine (pmay _ _ _ _ _ _ _ _ _ (Rd.below HR.out (by repeat (first | exact Below.refl _ _ | assumption | refine Below.drew ?_ | refine below_dN ?_ _ | refine Below.setCell ?_ (by first | omega | (simp; done) | (simp; omega)) _ | refine below_al ?_ (by first | omega | (simp; done) | (simp; omega)) _ | refine below_tr (by assumption) ?_ (by first | omega | (simp; done) | (simp; omega)))))).mono ?_
    rintro e w1 ⟨rfl, hb1⟩
    obtain ⟨hc1, hf1⟩ := bcell hb1
    go_wp2_with (go_at_call 26; refine (within _ _ _ _).mono ?_; rintro e w' ⟨rfl, rfl⟩)
    go_ret2
    exact RetL.nil rfl (by repeat (first | exact Below.refl _ _ | assumption | refine Below.drew ?_ | refine below_dN ?_ _ | refine Below.setCell ?_ (by first | omega | (simp; done) | (simp; omega)) _ | refine below_al ?_ (by first | omega | (simp; done) | (simp; omega)) _ | refine below_tr (by assumption) ?_ (by first | omega | (simp; done) | (simp; omega))))
  · rw [h5, h4]
    obtain ⟨hck, k0, k1⟩ := may_good h1
    obtain ⟨b0, b1, p0, p1, m0, m1, hlen, hx, _⟩ := check_good hck
    obtain ⟨s0, s1⟩ := inB_t h2
    obtain ⟨k, rfl⟩ := Int.eq_ofNat_of_zero_le k0
    have hl := HR.out.1
    have hkn : k < n := by omega
    obtain ⟨x0, x1⟩ := rdI_mem xs (fun x => 0 ≤ x ∧ x ≤ 1073741824) (by decide) hx k
    have hn8 : n ≤ 8 := by omega
    have hk4 : (0 : Int) ≤ (k : Int) := by omega
    have hk5 : (k : Int) < (n : Int) := by omega
    subst hl
    clear h5 h4 hlen hx hck
    go_enter Try.func20, Try.ntmps20
    go_wp2_with fail
    refine (pmay _ _ _ _ _ _ _ _ _ (Rd.below HR.out (by repeat (first | exact Below.refl _ _ | assumption | refine Below.drew ?_ | refine below_dN ?_ _ | refine Below.setCell ?_ (by first | omega | (simp; done) | (simp; omega)) _ | refine below_al ?_ (by first | omega | (simp; done) | (simp; omega)) _ | refine below_tr (by assumption) ?_ (by first | omega | (simp; done) | (simp; omega)))))).mono ?_
    rintro e w1 ⟨rfl, hb1⟩
    obtain ⟨hc1, hf1⟩ := bcell hb1
    have hB1 : Below w.heap.size w w1 := (by repeat (first | exact Below.refl _ _ | assumption | refine Below.drew ?_ | refine below_dN ?_ _ | refine Below.setCell ?_ (by first | omega | (simp; done) | (simp; omega)) _ | refine below_al ?_ (by first | omega | (simp; done) | (simp; omega)) _ | refine below_tr (by assumption) ?_ (by first | omega | (simp; done) | (simp; omega))))
    go_wp2_with (go_at_call 26; refine (within _ _ _ _).mono ?_; rintro e w' ⟨rfl, rfl⟩)
    refine (clone _ _ _ xs _ (Rd.below HR.out hB1) (by omega) (by omega)).mono ?_
    rintro e w2 ⟨g, c2, rfl, hown, hb2⟩
    obtain ⟨oc, of, ob, ol, os⟩ := own_cell hown k hkn
    rw [add_plain] at oc of os
    have HOS := Lib.hid (os (rdI xs k + size))
    have hz1 := hB1.size
    have hz2 : w.heap.size ≤ g := by omega
    clear os hown hc1 hf1
    go_wp2
    go_ret2
    exact RetL.mk' (by simp) rfl HOS.out (by repeat (first | exact Below.refl _ _ | assumption | refine Below.drew ?_ | refine below_dN ?_ _ | refine Below.setCell ?_ (by first | omega | (simp; done) | (simp; omega)) _ | refine below_al ?_ (by first | omega | (simp; done) | (simp; omega)) _ | refine below_tr (by assumption) ?_ (by first | omega | (simp; done) | (simp; omega))))
set_option maxHeartbeats 2000000 in
theorem rput (b p m path size : Int) (A : Option Addr) (n c : Nat) (xs : List Int) (w : World) (hr : Rd .i64 w A n xs) (hs0 : -9223372036854775808 ≤ size) (hs1 : size ≤ 9223372036854775807) :
    Calls Try.prog 21 #[.agg #[.int .i64 b, .int .i64 p, .int .i64 m], .int .i64 path, .int .i64 size, .slice A n c] w (RetL (putL b p m path size xs) (putE b p m path size xs) w) := by
  have hu23 := Try.underlying23
  have HR := Lib.hid hr
  clear hr
  rcases putE_cases b p m path size xs with ⟨h1, h2, h3⟩ | ⟨h1, h2, h3, h4⟩ | ⟨h1, h2, h3, h4, h5⟩ | ⟨h1, h2, h3, h4, h5⟩
  · have h' : (mayE b p m path xs != 0) = true := by simpa using h1
    rw [h3, h2]
    clear h1 h2 h3
    go_enter Try.func21, Try.ntmps21
    go_wp2_with fail
    refine (qmay _ _ _ _ _ _ _ _ _ (Rd.below HR.out (by repeat (first | exact Below.refl _ _ | assumption | refine Below.drew ?_ | refine below_dN ?_ _ | refine Below.setCell ?_ (by first | omega | (simp; done) | (simp; omega)) _ | refine below_al ?_ (by first | omega | (simp; done) | (simp; omega)) _ | refine below_tr (by assumption) ?_ (by first | omega | (simp; done) | (simp; omega)))))).mono ?_
    rintro e w1 ⟨rfl, hb1⟩
    go_wp2
    go_ret2
    exact RetL.nil rfl (by repeat (first | exact Below.refl _ _ | assumption | refine Below.drew ?_ | refine below_dN ?_ _ | refine Below.setCell ?_ (by first | omega | (simp; done) | (simp; omega)) _ | refine below_al ?_ (by first | omega | (simp; done) | (simp; omega)) _ | refine below_tr (by assumption) ?_ (by first | omega | (simp; done) | (simp; omega))))
  · rw [h4, h3]
    clear h3 h4
    go_enter Try.func21, Try.ntmps21
    go_wp2_with fail
    refine (qmay _ _ _ _ _ _ _ _ _ (Rd.below HR.out (by repeat (first | exact Below.refl _ _ | assumption | refine Below.drew ?_ | refine below_dN ?_ _ | refine Below.setCell ?_ (by first | omega | (simp; done) | (simp; omega)) _ | refine below_al ?_ (by first | omega | (simp; done) | (simp; omega)) _ | refine below_tr (by assumption) ?_ (by first | omega | (simp; done) | (simp; omega)))))).mono ?_
    rintro e w1 ⟨rfl, hb1⟩
    obtain ⟨hc1, hf1⟩ := bcell hb1
    have hf := inB_f h2
    by_cases hlo : size < 1
    all_goals
      go_wp2
      go_ret2
      exact RetL.nil rfl (by repeat (first | exact Below.refl _ _ | assumption | refine Below.drew ?_ | refine below_dN ?_ _ | refine Below.setCell ?_ (by first | omega | (simp; done) | (simp; omega)) _ | refine below_al ?_ (by first | omega | (simp; done) | (simp; omega)) _ | refine below_tr (by assumption) ?_ (by first | omega | (simp; done) | (simp; omega))))
  · rw [h5, h4]
    clear h5 h4
    go_enter Try.func21, Try.ntmps21
    go_wp2_with fail
    refine (qmay _ _ _ _ _ _ _ _ _ (Rd.below HR.out (by repeat (first | exact Below.refl _ _ | assumption | refine Below.drew ?_ | refine below_dN ?_ _ | refine Below.setCell ?_ (by first | omega | (simp; done) | (simp; omega)) _ | refine below_al ?_ (by first | omega | (simp; done) | (simp; omega)) _ | refine below_tr (by assumption) ?_ (by first | omega | (simp; done) | (simp; omega)))))).mono ?_
    rintro e w1 ⟨rfl, hb1⟩
    obtain ⟨hc1, hf1⟩ := bcell hb1
    obtain ⟨s0, s1⟩ := inB_t h2
    go_wp2
    go_ret2
    exact RetL.nil rfl (by repeat (first | exact Below.refl _ _ | assumption | refine Below.drew ?_ | refine below_dN ?_ _ | refine Below.setCell ?_ (by first | omega | (simp; done) | (simp; omega)) _ | refine below_al ?_ (by first | omega | (simp; done) | (simp; omega)) _ | refine below_tr (by assumption) ?_ (by first | omega | (simp; done) | (simp; omega))))
  · rw [h5, h4]
    obtain ⟨hck, k0, k1⟩ := may_good h1
    obtain ⟨b0, b1, p0, p1, m0, m1, hlen, hx, _⟩ := check_good hck
    obtain ⟨s0, s1⟩ := inB_t h2
    obtain ⟨k, rfl⟩ := Int.eq_ofNat_of_zero_le k0
    have hl := HR.out.1
    have hkn : k < n := by omega
    obtain ⟨x0, x1⟩ := rdI_mem xs (fun x => 0 ≤ x ∧ x ≤ 1073741824) (by decide) hx k
    have hn8 : n ≤ 8 := by omega
    have hk4 : (0 : Int) ≤ (k : Int) := by omega
    have hk5 : (k : Int) < (n : Int) := by omega
    subst hl
    clear h5 h4 hlen hx hck
    go_enter Try.func21, Try.ntmps21
    go_wp2_with fail
    refine (qmay _ _ _ _ _ _ _ _ _ (Rd.below HR.out (by repeat (first | exact Below.refl _ _ | assumption | refine Below.drew ?_ | refine below_dN ?_ _ | refine Below.setCell ?_ (by first | omega | (simp; done) | (simp; omega)) _ | refine below_al ?_ (by first | omega | (simp; done) | (simp; omega)) _ | refine below_tr (by assumption) ?_ (by first | omega | (simp; done) | (simp; omega)))))).mono ?_
    rintro e w1 ⟨rfl, hb1⟩
    obtain ⟨hc1, hf1⟩ := bcell hb1
    have hB1 : Below w.heap.size w w1 := (by repeat (first | exact Below.refl _ _ | assumption | refine Below.drew ?_ | refine below_dN ?_ _ | refine Below.setCell ?_ (by first | omega | (simp; done) | (simp; omega)) _ | refine below_al ?_ (by first | omega | (simp; done) | (simp; omega)) _ | refine below_tr (by assumption) ?_ (by first | omega | (simp; done) | (simp; omega))))
    obtain ⟨i0, hi0, hz0, hz1', hz2⟩ := info_parts info3
    obtain ⟨ad, hA, _⟩ := HR.out.2.2 (by omega)
    have HA2 := Lib.hid (show A = none → c = 0 from fun h => by rw [h] at hA; cases hA)
    clear hA
    have hz1 := hB1.size
    go_wp2_with (at_builtin; go_must (refine wpList_append_rd rfl _ _ _ rfl w1.heap.size 3 i0 Try.underlying29 hi0 hz0 hz1' hz2 _ 0 [] rfl (own_empty w1 w1.heap.size 3 (Nat.le_refl _)) A xs.length c xs rfl (Rd.below HR.out (by repeat (first | exact Below.refl _ _ | assumption | refine Below.drew ?_ | refine below_dN ?_ _ | refine Below.setCell ?_ (by first | omega | (simp; done) | (simp; omega)) _ | refine below_al ?_ (by first | omega | (simp; done) | (simp; omega)) _ | refine below_tr (by assumption) ?_ (by first | omega | (simp; done) | (simp; omega))))) HA2.out (by omega) (by simp) ?_; intro v2 w2 hown0 hg; have hb2 : Below w1.heap.size w1 w2 := below_app (W := w1.alloc (.cells #[] 3)) (by repeat (first | exact Below.refl _ _ | assumption | refine Below.drew ?_ | refine below_dN ?_ _ | refine Below.setCell ?_ (by first | omega | (simp; done) | (simp; omega)) _ | refine below_al ?_ (by first | omega | (simp; done) | (simp; omega)) _ | refine below_tr (by assumption) ?_ (by first | omega | (simp; done) | (simp; omega)))) (by simp) (own_empty w1 w1.heap.size 3 (Nat.le_refl _)) hg; have hown : w2.ownsRow w1.heap.size 3 1 v2 xs.length (nums xs) := (by simpa using hown0); obtain ⟨g, c2, rfl⟩ := own_some hown (by omega); obtain ⟨oc, of, ob, ol, os⟩ := own_cell hown k hkn; rw [add_plain] at oc of os; have HOS := Lib.hid (os (rdI xs k + size)); have hz3 : w.heap.size ≤ g := (by omega); clear os hown hown0 hg))
    go_ret2
    exact RetL.mk' (by simp) rfl HOS.out (by repeat (first | exact Below.refl _ _ | assumption | refine Below.drew ?_ | refine below_dN ?_ _ | refine Below.setCell ?_ (by first | omega | (simp; done) | (simp; omega)) _ | refine below_al ?_ (by first | omega | (simp; done) | (simp; omega)) _ | refine below_tr (by assumption) ?_ (by first | omega | (simp; done) | (simp; omega))))
