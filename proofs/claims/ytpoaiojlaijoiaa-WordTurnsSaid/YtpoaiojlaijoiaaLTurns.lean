/- The walk of the law WordTurns: whatever comes in, the law returns true, and nothing that was there has changed. -/
import Derived.Test.YtpoaiojlaijoiaaLa
namespace Go.Proofs.Ytpoaiojlaijoiaa
open Go.RowKit
set_option linter.unusedVariables false
set_option linter.unusedSimpArgs false

theorem turn_pair (t a : Int) (c : Bool) (h0 : 0 ≤ a) (h1 : a ≤ 255) : ∃ (V : Int) (k : Bool),
    (∀ w, Calls Try.prog 39 #[.int .i64 t, .int .u8 a, .bool c] w fun e w' => e = .returned (.tuple #[.int .u8 V, .bool k]) ∧ w = w') ∧
    (∀ w, Calls Try.prog 40 #[.int .i64 t, .int .u8 a, .bool c] w fun e w' => e = .returned (.tuple #[.int .u8 V, .bool k]) ∧ w = w') := by
  by_cases t0 : t = 0
  · subst t0; exact ⟨_, _, fun w => turn_0 a c h0 h1 w, fun w => rturn_0 a c h0 h1 w⟩
  by_cases t1 : t = 1
  · subst t1; exact ⟨_, _, fun w => turn_1 a c h0 h1 w, fun w => rturn_1 a c h0 h1 w⟩
  by_cases t2 : t = 2
  · subst t2; exact ⟨_, _, fun w => turn_2 a c h0 h1 w, fun w => rturn_2 a c h0 h1 w⟩
  by_cases t3 : t = 3
  · subst t3; exact ⟨_, _, fun w => turn_3 a c h0 h1 w, fun w => rturn_3 a c h0 h1 w⟩
  exact ⟨_, _, fun w => turn_x t a c (by simpa using t0) (by simpa using t1) (by simpa using t2) (by simpa using t3) w, fun w => rturn_x t a c (by simpa using t0) (by simpa using t1) (by simpa using t2) (by simpa using t3) h0 h1 w⟩
theorem add16_pair (m n : Int) (h0 : 0 ≤ m) (h1 : m ≤ 65535) (h2 : 0 ≤ n) (h3 : n ≤ 65535) : ∃ (V : Int) (k : Bool),
    (∀ w, Calls Try.prog 22 #[.int .u16 m, .int .u16 n] w fun e w' => e = .returned (.tuple #[.int .u16 V, .bool k]) ∧ Below w.heap.size w w') ∧
    (∀ w, Calls Try.prog 41 #[.int .u16 m, .int .u16 n] w fun e w' => e = .returned (.tuple #[.int .u16 V, .bool k]) ∧ Below w.heap.size w w') :=
  ⟨_, _, fun w => add16_any m n h0 h1 h2 h3 w, fun w => radd16_any m n h0 h1 h2 h3 w⟩

set_option maxHeartbeats 400000 in
theorem wordTurns_any (t a : Int) (c : Bool) (m n : Int) (h0 : 0 ≤ a) (h1 : a ≤ 255) (h2 : 0 ≤ m) (h3 : m ≤ 65535) (h4 : 0 ≤ n) (h5 : n ≤ 65535) (w : World) :
    Calls Try.prog 10 #[.int .i64 t, .int .u8 a, .bool c, .int .u16 m, .int .u16 n] w fun e w' => e = .returned (.bool true) ∧ Below w.heap.size w w' := by
  obtain ⟨V, k, q1, q2⟩ := turn_pair t a c h0 h1
  obtain ⟨V', k', q3, q4⟩ := add16_pair m n h2 h3 h4 h5
  have Q1 := Lib.hid q1
  have Q2 := Lib.hid q2
  have Q3 := Lib.hid q3
  have Q4 := Lib.hid q4
  clear q1 q2 q3 q4
  go_enter Try.func10, Try.ntmps10
  go_wp2_with fail
  refine (Q1.out _).mono ?_; rintro e w1 ⟨rfl, rfl⟩
  go_wp2_with fail
  refine (Q2.out _).mono ?_; rintro e w1 ⟨rfl, rfl⟩
  go_wp2_with fail
  refine (Q3.out _).mono ?_; rintro e w1 ⟨rfl, hb1⟩
  go_wp2_with fail
  refine (Q4.out _).mono ?_; rintro e w2 ⟨rfl, hb2⟩
  go_wp2_with fail
  refine (alive_any _).mono ?_; rintro e w3 ⟨rfl, hb3⟩
  go_wp2
  go_ret
  exact ⟨rfl, by
    repeat (first | with_reducible exact Below.refl _ _ | with_reducible apply bdrew | with_reducible apply bdrewN | with_reducible apply balloc | (with_reducible apply bset; focus (first | (simp; done) | (simp; omega))) | (with_reducible apply bthen; focus (with_reducible assumption)))⟩

end Go.Proofs.Ytpoaiojlaijoiaa
