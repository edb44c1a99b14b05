/- Layer 16: the streams' round, as an iterator. -/
import Derived.RangeFuncNested
import Derived.RangeFuncBound
import Derived.RangeFuncCalls
import Derived.RangeFuncLeaves
import Derived.RangeFuncFrom
import Derived.Shelf.Abstract
import Derived.Shelf.RegionOpen
import Derived.WalkKit
import Derived.OwnWalkIn
import Derived.TacticsInMore
import Derived.LoopNIn
import Derived.LoopIn
import Derived.Stop.RegionWithIn
import Derived.Test.YtbppdgekjdpgiaaE
namespace Go.Proofs.Ytbppdgekjdpgiaa.C
open Go.RowKit Go.Shelf
set_option linter.unusedVariables false
set_option linter.unusedSimpArgs false
attribute [local go_sem] Oper.semAt_some

def upto {α : Type} (f : Nat → α) (k : Nat) : List α := (List.range k).map f
theorem upto_succ {α : Type} (f : Nat → α) (k : Nat) : upto f (k + 1) = upto f k ++ [f k] := by simp [upto, List.range_succ]
theorem upto_length {α : Type} (f : Nat → α) (k : Nat) : (upto f k).length = k := by simp [upto]
theorem upto_prefix {α : Type} (f : Nat → α) {k n : Nat} (h : k ≤ n) : upto f k <+: upto f n := by
  unfold upto
  rw [← Nat.add_sub_cancel' h, List.range_add, List.map_append]
  exact List.prefix_append _ _
/-- the stream that comes at place i -/
def rnd (last : Int) (n : Nat) (i : Nat) : Int := (last + 1 + i) % n
set_option maxRecDepth 100000 in
set_option maxHeartbeats 4000000 in
theorem round1_in {α : Type} (enc : α → Int) (el : Nat → α) (f : Nat) (hf : 1 ≤ f) (l Bq n₀ g bl n : Nat) (last : Int) (hl0 : -1 ≤ last) (hl1 : last ≤ 1024) (hn0 : 1 ≤ n) (hn1 : n ≤ 1024) (hBq : Bq < n₀) (hgn : g < n₀) (hel : ∀ k, k < n → enc (el k) = rnd last n k) (J Jx : List α → World → Prop) (hJd : ∀ pre W, J pre W → J pre W.drew)
    (hY : ∀ pre x W, J pre W → pre.length < n → YieldAt Fence.wide (f - 1) Try.prog l #[.int .i64 (enc x)] W fun e W' =>
      (e = .returned (.bool true) ∧ J (pre ++ [x]) W' ∧ Below n₀ W W') ∨ (e = .returned (.bool false) ∧ Jx (pre ++ [x]) W'))
    (W : World) (hBs : W.cell? ⟨Bq, 0, none⟩ = some (.pointer (some ⟨g, 0, none⟩))) (c0 : W.cell? ⟨g, 0, none⟩ = some (.slice (some ⟨bl, 0, none⟩) n n)) (c5 : W.cell? ⟨g, 5, none⟩ = some (.int .i64 last)) (h0 : J [] W) :
    CallsIn Fence.wide f Try.prog 34 #[.func (.yield l) #[] #[], .pointer (some ⟨Bq, 0, none⟩)] W fun e W' => (∃ v, e = .returned v) ∧
      ((∃ ys, ys = upto el n ∧ J ys W') ∨ (∃ pre, (∃ k, k ≤ n ∧ pre = upto el k) ∧ Jx pre W')) := by
  refine callsIn_of_wp Try.func34 rfl trivial ?_ rfl
  simp only [Try.ntmps34, List.size_toArray, List.length_cons, List.length_nil, Nat.reduceAdd, Nat.reduceSub, Array.replicate_succ, Array.replicate_zero, List.push_toArray, List.append_toArray, List.nil_append, List.cons_append]
  gi_wp2
  gi_loopw [9] (fun i wr => ∃ k : Nat, k ≤ n ∧ i = .int .i64 k ∧ J (upto el k) wr ∧ Below n₀ W wr)
    (fun i _ => n - (intOf i).toNat)
  case atStart => exact ⟨0, Nat.zero_le _, rfl, h0, Below.refl _ _⟩
  case round =>
    obtain ⟨k, hk, rfl, hJs, hnx⟩ := hrel
    have d1 : wr.cell? ⟨Bq, 0, none⟩ = some (.pointer (some ⟨g, 0, none⟩)) := (hnx.cell (p := ⟨Bq, 0, none⟩) hBq).trans hBs
    have d2 : wr.cell? ⟨g, 0, none⟩ = some (.slice (some ⟨bl, 0, none⟩) n n) := (hnx.cell (p := ⟨g, 0, none⟩) hgn).trans c0
    have d3 : wr.cell? ⟨g, 5, none⟩ = some (.int .i64 last) := (hnx.cell (p := ⟨g, 5, none⟩) hgn).trans c5
    by_cases hlt : k < n
    · have hz : ((n : Int) == 0) = false := by simp; omega
      obtain ⟨fn, tmps, assign, body, hy, hR⟩ := (hY _ (el k) wr.drew (hJd _ _ hJs) (by rw [upto_length]; exact hlt)).mono (R' := fun e W' => ∃ b : Bool, e = .returned (.bool b) ∧ Hid ((b = true ∧ J (upto el k ++ [el k]) W' ∧ Below n₀ wr.drew W') ∨ (b = false ∧ Jx (upto el k ++ [el k]) W'))) (by
        rintro e W' (⟨rfl, h1, h2⟩ | ⟨rfl, h1⟩)
        · exact ⟨true, rfl, .inl ⟨rfl, h1, h2⟩⟩
        · exact ⟨false, rfl, .inr ⟨rfl, h1⟩⟩)
      rw [hel k hlt] at hy
      unfold rnd at hy
      gi_wp2
      gi_region_with (refine hR.mono ?_; rintro e W3 ⟨bb, rfl, hp⟩)
      all_goals
        rcases hp.out with ⟨rfl, hJ3, hk3⟩ | ⟨rfl, hJx3⟩
        · gi_wp2
          go_roundw
          case rel => exact ⟨k + 1, by omega, by simp, by rw [upto_succ]; exact hJ3, hnx.trans (Below.trans (Below.refl _ _).drew hk3)⟩
          case measure => simp [intOf]; omega
        · gi_wp2
          refine bodyPost_ret (results_none rfl _ _ _) rfl ?_
          exact ⟨⟨_, rfl⟩, .inr ⟨_, ⟨k + 1, by omega, (upto_succ _ _).symm⟩, hJx3⟩⟩
    · obtain rfl : k = n := by omega
      gi_wp2
      go_end0
      exact ⟨⟨_, rfl⟩, .inl ⟨_, rfl, hJs⟩⟩
