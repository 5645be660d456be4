/- The walks of package isa86's small functions. -/
import Derived.Test.YtbhkndblolegaaaKt
import Derived.Test.YtbhkndblolegaaaIs
namespace Go.Proofs.Ytbhkndblolegaaa
open Go.RowKit
set_option linter.unusedVariables false
set_option linter.unusedSimpArgs false

set_option maxHeartbeats 400000 in
theorem wide_any (c : Int) (w : World) : Calls Try.prog 94 #[.int .i64 c] w fun e w' => e = .returned (.int .i64 (wideL c)) ∧ w = w' := by
  rcases wide_cases c with ⟨h, h0, h1⟩ | ⟨h, h0, h1⟩ | ⟨h, h0 | h0⟩ <;> rw [h] <;> clear h <;>
  · go_enter Try.func94, Try.ntmps94
    go_wp2
    go_ret
    exact ⟨rfl, rfl⟩

set_option maxHeartbeats 400000 in
theorem num_any (c : Int) (h0 : 1 ≤ c) (h1 : c ≤ 16) (w : World) : Calls Try.prog 96 #[.int .i64 c] w fun e w' => e = .returned (.int .u8 (numL c)) ∧ w = w' := by
  have h := and7 c
  have e : (c - 1) % 256 = c - 1 := by omega
  rw [e] at h
  clear e
  go_enter Try.func96, Try.ntmps96
  go_wp2
  go_ret
  exact ⟨rfl, rfl⟩

set_option maxHeartbeats 400000 in
theorem rm_any (x y : Int) (h0 : 0 ≤ x) (h1 : x ≤ 7) (h2 : 0 ≤ y) (h3 : y ≤ 7) (w : World) : Calls Try.prog 95 #[.int .u8 x, .int .u8 y] w fun e w' => e = .returned (.int .u8 (192 + x * 8 + y)) ∧ w = w' := by
  obtain ⟨e1, e2⟩ := pair_or x y h0 h1 h2 h3
  go_enter Try.func95, Try.ntmps95
  go_wp2
  go_ret
  exact ⟨rfl, rfl⟩

set_option maxHeartbeats 400000 in
theorem mem_any (x y : Int) (h0 : 0 ≤ x) (h1 : x ≤ 7) (h2 : 0 ≤ y) (h3 : y ≤ 7) (w : World) : Calls Try.prog 98 #[.int .u8 x, .int .u8 y] w fun e w' => e = .returned (.int .u8 (x * 8 + y)) ∧ w = w' := by
  obtain ⟨e1, e2⟩ := pair_or x y h0 h1 h2 h3
  go_enter Try.func98, Try.ntmps98
  go_wp2
  go_ret
  exact ⟨rfl, rfl⟩

set_option maxHeartbeats 400000 in
theorem of_any (t : Int) (a : Option Addr) (n c : Nat) (w : World) : Calls Try.prog 71 #[.int .i64 t, .slice a n c] w fun e w' => e = .returned (.agg #[.slice a n c, .int .i64 t]) ∧ Below w.heap.size w w' := by
  go_enter Try.func71, Try.ntmps71
  go_wp2
  refine bodyPost_ret ?_ rfl ⟨rfl, ?_⟩
  · simp [results, Try.results71, go_sem]
  · exact balloc (Below.refl _ _) _

end Go.Proofs.Ytbhkndblolegaaa
