/- Layer 16: each call of a queue, whatever is asked. -/
import Derived.Test.YtbppdgekjdpgiaaIn
namespace Go.Proofs.Ytbppdgekjdpgiaa.C
open Go.RowKit
set_option linter.unusedVariables false
set_option linter.unusedSimpArgs false
attribute [local go_sem high] max2_mx min2_mn max_two min_two
attribute [local go_sem ↓] Go.wp_at_zero Go.wp_at_succ

/-- what Next tells -/
def nxtA (q : QS) : Int := if nextF q < 0 then 0 else nextF q
def hdLen : List Msg → Int
  | [] => 0
  | m :: _ => m.data.length
def nxtB (q : QS) : Int := if nextF q < 0 then 0 else hdLen (q.ss (nextF q).toNat)
def nxtC (q : QS) : Bool := !decide (nextF q < 0)
/-- the queue behind Take(x) -/
def takeR (q : QS) (x : Int) : QS := if x < 1 ∨ nextF q < 0 then q else match q.ss (nextF q).toNat with
  | [] => q
  | m :: ms => takeQ q (nextF q).toNat m ms x.toNat
/-- the queue behind Push -/
def pushR (q : QS) (s : Nat) (proto : Int) (un : Bool) (xs : List Int) : QS := if pushE q s xs.length = 0 then pushQ q s proto un xs else q
/-- the queue behind Free -/
def freeR (q : QS) (x : Int) : QS := if freeE q x = 0 then { q with tak := q.tak - x } else q
theorem takeQ_f (q : QS) (s : Nat) (m : Msg) (ms : List Msg) (x : Nat) : (takeQ q s m ms x).n = q.n ∧ (takeQ q s m ms x).lim = q.lim := by
  have h := begQ_f q s m ms
  unfold takeQ
  split
  · exact ⟨h.1, h.2.2.2⟩
  · exact ⟨h.1, h.2.2.2⟩
theorem Inv.takeR {q : QS} (h : Inv q) (x : Int) : Inv (takeR q x) ∧ (takeR q x).n = q.n ∧ (takeR q x).lim = q.lim := by
  unfold C.takeR
  by_cases hx : x < 1 ∨ nextF q < 0
  · rw [if_pos hx]; exact ⟨h, rfl, rfl⟩
  · rw [if_neg hx]
    rcases next_cases h with ⟨h1, _⟩ | ⟨s, m, ms, h1, h2, h3, h4⟩
    · omega
    · have e : (nextF q).toNat = s := by omega
      rw [e, h3]
      exact ⟨h.take s m ms x.toNat h2 h3 (by rcases h4 with h4 | h4; exact .inl h4; exact .inr ⟨h4.1, h4.2.1⟩) (by omega), takeQ_f q s m ms _⟩
theorem pushE_0 {q : QS} {s n : Nat} (h : pushE q s n = 0) : s < q.n ∧ 0 < n ∧ n ≤ 65536 ∧ (n : Int) ≤ q.lim - q.wai - q.tak := by
  unfold pushE at h
  split at h
  · cases h
  split at h
  · cases h
  split at h
  · cases h
  omega
theorem Inv.pushR {q : QS} (h : Inv q) (s : Nat) (proto : Int) (un : Bool) (xs : List Int) : Inv (pushR q s proto un xs) ∧ (pushR q s proto un xs).n = q.n ∧ (pushR q s proto un xs).lim = q.lim := by
  unfold C.pushR
  split
  · rename_i he
    obtain ⟨h1, h2, h3, h4⟩ := pushE_0 he
    exact ⟨h.push s proto un xs h1 h2 h3 h4, rfl, rfl⟩
  · exact ⟨h, rfl, rfl⟩
theorem Inv.freeR {q : QS} (h : Inv q) (x : Int) : Inv (freeR q x) ∧ (freeR q x).n = q.n ∧ (freeR q x).lim = q.lim := by
  unfold C.freeR
  by_cases he : x < 0 ∨ q.tak < x
  · rw [show freeE q x = 5 from if_pos he, if_neg (by decide)]
    exact ⟨h, rfl, rfl⟩
  · rw [show freeE q x = 0 from if_neg he, if_pos rfl]
    exact ⟨h.free x (by omega) (by omega), rfl, rfl⟩
section
variable {w : World} {base g : Nat} {q : QS} {F : Nat → Prop}
theorem nxt_any (h : OQ w base g q F) (i : Inv q) : Calls Try.prog 15 #[.pointer (some ⟨g, 0, none⟩)] w fun e w' => e = .returned (.tuple #[.int .u16 (nxtA q), .int .i64 (nxtB q), .bool (nxtC q)]) ∧ Below w.heap.size w w' := by
  rcases next_cases i with ⟨h1, _⟩ | ⟨s, m, ms, h1, h2, h3, h4⟩
  · have e : nextF q < 0 := by omega
    rw [show nxtA q = 0 from if_pos e, show nxtB q = 0 from if_pos e, show nxtC q = false from by unfold nxtC; rw [decide_eq_true e]; rfl]
    exact nxt_no h i.ok e
  · have e : ¬ nextF q < 0 := by omega
    rw [show nxtA q = s from (if_neg e).trans h1, show nxtB q = m.data.length from by unfold nxtB; rw [if_neg e, show (nextF q).toNat = s from by omega, h3]; rfl, show nxtC q = true from by unfold nxtC; rw [decide_eq_false e]; rfl]
    exact nxt_s h i.ok s m ms h1 h2 h3
/-- Take's answer is let go -/
theorem take_any (h : OQ w base g q F) (i : Inv q) (x : Int) : Calls Try.prog 12 #[.pointer (some ⟨g, 0, none⟩), .int .i64 x] w fun e w' => (∃ v, e = .returned v) ∧ Stp w w' base g (takeR q x) F := by
  by_cases hx : x < 1 ∨ nextF q < 0
  · rw [show takeR q x = q from if_pos hx]
    refine (take_no h i.ok x hx).mono ?_
    rintro e w' ⟨rfl, hb⟩
    exact ⟨⟨_, rfl⟩, Stp.of h hb⟩
  · rcases next_cases i with ⟨h1, _⟩ | ⟨s, m, ms, h1, h2, h3, h4⟩
    · omega
    · have e : takeR q x = takeQ q s m ms x.toNat := by
        unfold takeR
        rw [if_neg hx, show (nextF q).toNat = s from by omega, h3]
      obtain ⟨k1, k2, k3⟩ := i.head s h2 m ms h3
      have hxt : x = ((x.toNat : Nat) : Int) := by omega
      rw [e, hxt, Int.toNat_natCast]
      refine (take_s h i.ok s m ms x.toNat h1 h2 h3 (by omega) k1 k2 k3).mono ?_
      rintro e w' ⟨gd, cd, rfl, hst, _⟩
      exact ⟨⟨_, rfl⟩, hst⟩
theorem push_any (h : OQ w base g q F) (i : Inv q) (s n c : Nat) (proto : Int) (un : Bool) (A : Option Addr) (xs : List Int) (hr : Rd .u8 w A n xs) (hs2 : s ≤ 65535) :
    Calls Try.prog 11 #[.pointer (some ⟨g, 0, none⟩), .int .u16 s, .int .u32 proto, .bool un, .slice A n c] w (PushS base g (pushR q s proto un xs) F (pushE q s n) w) := by
  have hl := hr.1
  by_cases hs : s < q.n
  · unfold pushR
    rw [hl]
    exact push_s h i.ok s n c proto un A xs hr hs2 (i.len s hs)
  · obtain ⟨hb, L, hq, hF⟩ := id h
    have e : pushE q s n = 160 := if_pos (by omega)
    unfold pushR
    rw [hl, e, if_neg (by decide)]
    refine (push_stream base g q L i.ok s n c proto un A w hq (by omega) hs2).mono ?_
    rintro e w' ⟨rfl, rfl⟩
    exact ⟨rfl, Stp.refl h⟩
theorem free_any (h : OQ w base g q F) (i : Inv q) (x : Int) :
    Calls Try.prog 16 #[.pointer (some ⟨g, 0, none⟩), .int .i64 x] w (PushS base g (freeR q x) F (freeE q x) w) := free_s h i.ok x
end
set_option maxHeartbeats 1000000 in
theorem new_f (n lim : Int) (w : World) (h : n < 1 ∨ 1024 < n ∨ lim < 1 ∨ 1073741824 < lim) :
    Calls Try.prog 9 #[.int .i64 n, .int .i64 lim] w fun e w' => e = .returned (.tuple #[.pointer none, .int .i64 1]) ∧ w = w' := by
  have hu59 := Try.underlying59
  by_cases h1 : n < 1
  · clear h
    go_enter Try.func9, Try.ntmps9
    go_wp2
    go_ret2
    exact ⟨rfl, rfl⟩
  by_cases h2 : 1024 < n
  · clear h
    go_enter Try.func9, Try.ntmps9
    go_wp2
    go_ret2
    exact ⟨rfl, rfl⟩
  by_cases h3 : lim < 1
  · clear h
    go_enter Try.func9, Try.ntmps9
    go_wp2
    go_ret2
    exact ⟨rfl, rfl⟩
  · have h4 : 1073741824 < lim := by omega
    clear h
    go_enter Try.func9, Try.ntmps9
    go_wp2
    go_ret2
    exact ⟨rfl, rfl⟩
