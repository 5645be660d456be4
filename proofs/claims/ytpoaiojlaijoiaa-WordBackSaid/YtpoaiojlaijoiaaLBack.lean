/- The walk of the law WordBack: whatever comes in, the law returns true, and nothing that was there has changed. -/
import Derived.Test.YtpoaiojlaijoiaaLa
namespace Go.Proofs.Ytpoaiojlaijoiaa
open Go.RowKit
set_option linter.unusedVariables false
set_option linter.unusedSimpArgs false

theorem add_b (a b : Int) (c : Bool) (h0 : 0 ≤ a) (h1 : a ≤ 255) (h2 : 0 ≤ b) (h3 : b ≤ 255) : ∃ (V : Int) (s x p k s' z' x' p' k' : Bool),
    (∀ w, Calls Try.prog 13 #[.int .u8 a, .int .u8 b, .bool c] w fun e w' => e = .returned (.tuple #[.int .u8 V, .agg #[.bool s, .bool (V == 0), .bool x, .bool p, .bool k]]) ∧ Below w.heap.size w w') ∧
    (∀ w, Calls Try.prog 24 #[.int .u8 V, .int .u8 b, .bool c] w fun e w' => e = .returned (.tuple #[.int .u8 a, .agg #[.bool s', .bool z', .bool x', .bool p', .bool k']]) ∧ Below w.heap.size w w') := by
  have e : ((a + b + cb c) % 256 + (255 - b) + cb (!c)) % 256 = a := by
    have := cb_lo c
    have := cb_hi c
    rw [cb_not]; omega
  have g := fun w => sub_any ((a + b + cb c) % 256) b c (by omega) (by omega) h2 h3 w
  simp only [e] at g
  exact ⟨(a + b + cb c) % 256, _, _, _, _, _, _, _, _, _, fun w => add_any a b c h0 h1 h2 h3 w, g⟩
theorem sub_b (a b : Int) (h0 : 0 ≤ a) (h1 : a ≤ 255) (h2 : 0 ≤ b) (h3 : b ≤ 255) : ∃ (V : Int) (s x p : Bool),
    (∀ w, Calls Try.prog 24 #[.int .u8 a, .int .u8 b, .bool false] w fun e w' => e = .returned (.tuple #[.int .u8 V, .agg #[.bool s, .bool (a == b), .bool x, .bool p, .bool (decide (a < b))]]) ∧ Below w.heap.size w w') := by
  have e : cb (!false) = 1 := rfl
  have e1 : ((a + (255 - b) + cb (!false)) % 256 == 0) = (a == b) := by rw [e, Bool.eq_iff_iff]; simp; omega
  have e2 : (!decide (255 < a + (255 - b) + cb (!false))) = decide (a < b) := by rw [e, ← decide_not]; congr 1; apply propext; omega
  have g := fun w => sub_any a b false h0 h1 h2 h3 w
  simp only [e1, e2] at g
  exact ⟨(a + (255 - b) + cb (!false)) % 256, _, _, _, g⟩
theorem turn_b (a : Int) (c : Bool) (h0 : 0 ≤ a) (h1 : a ≤ 255) : ∃ (l : Int) (d : Bool),
    (∀ w, Calls Try.prog 39 #[.int .i64 2, .int .u8 a, .bool c] w fun e w' => e = .returned (.tuple #[.int .u8 l, .bool d]) ∧ w = w') ∧
    (∀ w, Calls Try.prog 39 #[.int .i64 3, .int .u8 l, .bool d] w fun e w' => e = .returned (.tuple #[.int .u8 a, .bool c]) ∧ w = w') := by
  have b0 := cb_lo c
  have b1 := cb_hi c
  have es : cb (sgn a) = a / 128 := by
    unfold sgn cb
    by_cases h : 128 ≤ a
    · simp [h]; omega
    · simp [h]; omega
  have e1 : (a * 2 + cb c) % 256 / 2 + 128 * cb (sgn a) = a := by rw [es]; omega
  have e2 : ((a * 2 + cb c) % 256 % 2 == 1) = c := by
    cases c
    · exact byte_cases (P := fun a => ((a * 2 + cb false) % 256 % 2 == 1) = false) (by decide +kernel) a h0 h1
    · exact byte_cases (P := fun a => ((a * 2 + cb true) % 256 % 2 == 1) = true) (by decide +kernel) a h0 h1
  refine ⟨(a * 2 + cb c) % 256, sgn a, fun w => turn_2 a c h0 h1 w, fun w => ?_⟩
  have g := turn_3 ((a * 2 + cb c) % 256) (sgn a) (by omega) (by omega) w
  rw [e1, e2] at g
  exact g
theorem turn_c (a : Int) (h0 : 0 ≤ a) (h1 : a ≤ 255) : ∃ (m : Int) (d e' : Bool),
    (∀ w, Calls Try.prog 39 #[.int .i64 0, .int .u8 a, .bool false] w fun e w' => e = .returned (.tuple #[.int .u8 m, .bool d]) ∧ w = w') ∧
    (∀ w, Calls Try.prog 39 #[.int .i64 1, .int .u8 m, .bool false] w fun e w' => e = .returned (.tuple #[.int .u8 a, .bool e']) ∧ w = w') := by
  have e1 : (a * 2 + a / 128) % 256 / 2 + (a * 2 + a / 128) % 256 % 2 * 128 = a :=
    byte_cases (P := fun a => (a * 2 + a / 128) % 256 / 2 + (a * 2 + a / 128) % 256 % 2 * 128 = a) (by decide +kernel) a h0 h1
  have g := fun w => turn_1 ((a * 2 + a / 128) % 256) false (by omega) (by omega) w
  simp only [e1] at g
  exact ⟨(a * 2 + a / 128) % 256, _, _, fun w => turn_0 a false h0 h1 w, g⟩

set_option maxHeartbeats 1000000 in
theorem wordBack_any (a b : Int) (c : Bool) (h0 : 0 ≤ a) (h1 : a ≤ 255) (h2 : 0 ≤ b) (h3 : b ≤ 255) (w : World) :
    Calls Try.prog 11 #[.int .u8 a, .int .u8 b, .bool c] w fun e w' => e = .returned (.bool true) ∧ Below w.heap.size w w' := by
  obtain ⟨V, s, x, p, k, s', z', x', p', k', q1, q2⟩ := add_b a b c h0 h1 h2 h3
  obtain ⟨U, s'', x'', p'', q3⟩ := sub_b a b h0 h1 h2 h3
  obtain ⟨l, d, q4, q5⟩ := turn_b a c h0 h1
  obtain ⟨m, d', e', q6, q7⟩ := turn_c a h0 h1
  have Q1 := Lib.hid q1
  have Q2 := Lib.hid q2
  have Q3 := Lib.hid q3
  have Q4 := Lib.hid q4
  have Q5 := Lib.hid q5
  have Q6 := Lib.hid q6
  have Q7 := Lib.hid q7
  clear q1 q2 q3 q4 q5 q6 q7
  go_enter Try.func11, Try.ntmps11
  go_wp2_with fail
  refine (Q1.out _).mono ?_; rintro e w1 ⟨rfl, hb1⟩
  go_wp2_with fail
  refine (Q2.out _).mono ?_; rintro e w2 ⟨rfl, hb2⟩
  have o0 := (own_new _ _ _).below hb2
  go_wp2_with fail
  refine (Q3.out _).mono ?_; rintro e w3 ⟨rfl, hb3⟩
  have o0 := (o0.alloc _).below hb3
  have c0 := o0.five
  have z0 := o0.lt
  go_wp2_with fail
  refine (Q4.out _).mono ?_; rintro e w4 ⟨rfl, rfl⟩
  go_wp2_with fail
  refine (Q5.out _).mono ?_; rintro e w4 ⟨rfl, rfl⟩
  go_wp2_with fail
  refine (Q6.out _).mono ?_; rintro e w4 ⟨rfl, rfl⟩
  go_wp2_with fail
  refine (Q7.out _).mono ?_; rintro e w4 ⟨rfl, rfl⟩
  go_wp2_with fail
  refine (alive_any _).mono ?_; rintro e w4 ⟨rfl, hb4⟩
  go_wp2
  go_ret
  exact ⟨rfl, by
    repeat (first | with_reducible exact Below.refl _ _ | with_reducible apply bdrew | with_reducible apply bdrewN | with_reducible apply balloc | (with_reducible apply bset; focus (first | (simp; done) | (simp; omega))) | (with_reducible apply bthen; focus (with_reducible assumption)))⟩

end Go.Proofs.Ytpoaiojlaijoiaa
