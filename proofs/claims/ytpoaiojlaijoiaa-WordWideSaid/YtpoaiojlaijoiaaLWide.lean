/- The walk of the law WordWide: whatever comes in, the law returns true, and nothing that was there has changed. -/
import Derived.Test.YtpoaiojlaijoiaaLa
namespace Go.Proofs.Ytpoaiojlaijoiaa
open Go.RowKit
set_option linter.unusedVariables false
set_option linter.unusedSimpArgs false

theorem wide_sum (m n : Int) (h0 : 0 ≤ m) (h1 : m ≤ 65535) (h2 : 0 ≤ n) (h3 : n ≤ 65535) :
    (m + n) % 65536 = (m / 256 + n / 256 + cb (decide (255 < m % 256 + n % 256 + cb false))) % 256 * 256 + (m % 256 + n % 256 + cb false) % 256 ∧
    decide (65535 < m + n) = decide (255 < m / 256 + n / 256 + cb (decide (255 < m % 256 + n % 256 + cb false))) := by
  have e : cb false = 0 := rfl
  rw [e]
  by_cases h : 255 < m % 256 + n % 256 + 0
  · rw [decide_eq_true h]
    have e1 : cb true = 1 := rfl
    rw [e1]
    refine ⟨by omega, ?_⟩
    congr 1; apply propext; omega
  · rw [decide_eq_false h, e]
    refine ⟨by omega, ?_⟩
    congr 1; apply propext; omega

set_option maxHeartbeats 400000 in
theorem wordWide_any (m n : Int) (h0 : 0 ≤ m) (h1 : m ≤ 65535) (h2 : 0 ≤ n) (h3 : n ≤ 65535) (w : World) :
    Calls Try.prog 5 #[.int .u16 m, .int .u16 n] w fun e w' => e = .returned (.bool true) ∧ Below w.heap.size w w' := by
  obtain ⟨e1, e2⟩ := wide_sum m n h0 h1 h2 h3
  have q1 := fun w => add16_any m n h0 h1 h2 h3 w
  rw [e1, e2] at q1
  have q2 := fun w => add_any (m % 256) (n % 256) false (by omega) (by omega) (by omega) (by omega) w
  have q3 := fun w => add_any (m / 256) (n / 256) (decide (255 < m % 256 + n % 256 + cb false)) (by omega) (by omega) (by omega) (by omega) w
  obtain ⟨L, hL⟩ : ∃ L, (m % 256 + n % 256 + cb false) % 256 = L := ⟨_, rfl⟩
  obtain ⟨C, hC⟩ : ∃ C, decide (255 < m % 256 + n % 256 + cb false) = C := ⟨_, rfl⟩
  obtain ⟨H, hH⟩ : ∃ H, (m / 256 + n / 256 + cb C) % 256 = H := ⟨_, rfl⟩
  obtain ⟨D, hD⟩ : ∃ D, decide (255 < m / 256 + n / 256 + cb C) = D := ⟨_, rfl⟩
  have l0 : 0 ≤ L := by omega
  have l1 : L ≤ 255 := by omega
  have k0 : 0 ≤ H := by omega
  have k1 : H ≤ 255 := by omega
  rw [hL, hC, hH, hD] at q1
  rw [hL, hC] at q2
  rw [hC, hH, hD] at q3
  clear e1 e2 hL hC hH hD
  have Q1 := Lib.hid q1
  have Q2 := Lib.hid q2
  have Q3 := Lib.hid q3
  clear q1 q2 q3
  go_enter Try.func5, Try.ntmps5
  go_wp2_with fail
  refine (Q1.out _).mono ?_; rintro e w1 ⟨rfl, hb1⟩
  go_wp2_with fail
  refine (Q2.out _).mono ?_; rintro e w2 ⟨rfl, hb2⟩
  go_wp2_with fail
  refine (Q3.out _).mono ?_; rintro e w3 ⟨rfl, hb3⟩
  go_wp2_with fail
  refine (alive_any _).mono ?_; rintro e w4 ⟨rfl, hb4⟩
  go_wp2
  go_ret
  exact ⟨rfl, by
    repeat (first | with_reducible exact Below.refl _ _ | with_reducible apply bdrew | with_reducible apply bdrewN | with_reducible apply balloc | (with_reducible apply bset; focus (first | (simp; done) | (simp; omega))) | (with_reducible apply bthen; focus (with_reducible assumption)))⟩

end Go.Proofs.Ytpoaiojlaijoiaa
