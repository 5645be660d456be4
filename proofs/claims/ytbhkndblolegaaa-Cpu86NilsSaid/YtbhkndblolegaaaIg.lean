/- The walks of isa86's functions that guess an instruction by its first two bytes. -/
import Derived.Test.YtbhkndblolegaaaIb
import Derived.Test.YtbhkndblolegaaaPa
namespace Go.Proofs.Ytbhkndblolegaaa
open Go.RowKit
set_option linter.unusedVariables false
set_option linter.unusedSimpArgs false

set_option maxHeartbeats 400000 in
theorem register_any (x : Int) (c : Bool) (h0 : 0 ≤ x) (h1 : x ≤ 255) (w : World) : Calls Try.prog 66 #[.int .u8 x, .bool c] w fun e w' => e = .returned (.int .i64 (regL x c)) ∧ w = w' := by
  cases c <;>
  · go_enter Try.func66, Try.ntmps66
    go_wp2
    go_ret
    exact ⟨rfl, rfl⟩

set_option maxHeartbeats 400000 in
theorem moved_r0 (a m reg r : Int) (h0 : 0 ≤ a) (h1 : a ≤ 255) (h2 : 0 ≤ m) (h3 : m ≤ 255) (g : m / 64 = 3) (ha : a / 2 % 2 = 0) (w : World) : Calls Try.prog 67 #[.int .u8 a, .int .u8 m, .int .i64 reg, .int .i64 r] w fun e w' => e = .returned (.tuple #[.int .i64 1, .int .i64 r, .int .i64 reg]) ∧ w = w' := by
  have hb := and2_u8 a h0 h1
  rw [ha] at hb
  clear ha
  go_enter Try.func67, Try.ntmps67
  go_wp2
  go_ret3
  exact ⟨rfl, rfl⟩

set_option maxHeartbeats 400000 in
theorem moved_b0 (a m reg r : Int) (h0 : 0 ≤ a) (h1 : a ≤ 255) (h2 : 0 ≤ m) (h3 : m ≤ 255) (g : ¬ m / 64 = 3) (k : m % 8 = 7) (ha : a / 2 % 2 = 0) (w : World) : Calls Try.prog 67 #[.int .u8 a, .int .u8 m, .int .i64 reg, .int .i64 r] w fun e w' => e = .returned (.tuple #[.int .i64 1, .int .i64 17, .int .i64 reg]) ∧ w = w' := by
  have hb := and2_u8 a h0 h1
  rw [ha] at hb
  clear ha
  go_enter Try.func67, Try.ntmps67
  go_wp2
  go_ret3
  exact ⟨rfl, rfl⟩

set_option maxHeartbeats 400000 in
theorem moved_s0 (a m reg r : Int) (h0 : 0 ≤ a) (h1 : a ≤ 255) (h2 : 0 ≤ m) (h3 : m ≤ 255) (g : ¬ m / 64 = 3) (k : m % 8 = 4) (ha : a / 2 % 2 = 0) (w : World) : Calls Try.prog 67 #[.int .u8 a, .int .u8 m, .int .i64 reg, .int .i64 r] w fun e w' => e = .returned (.tuple #[.int .i64 1, .int .i64 18, .int .i64 reg]) ∧ w = w' := by
  have hb := and2_u8 a h0 h1
  rw [ha] at hb
  clear ha
  go_enter Try.func67, Try.ntmps67
  go_wp2
  go_ret3
  exact ⟨rfl, rfl⟩

set_option maxHeartbeats 400000 in
theorem moved_n0 (a m reg r : Int) (h0 : 0 ≤ a) (h1 : a ≤ 255) (h2 : 0 ≤ m) (h3 : m ≤ 255) (g : ¬ m / 64 = 3) (k : m % 8 = 6) (ha : a / 2 % 2 = 0) (w : World) : Calls Try.prog 67 #[.int .u8 a, .int .u8 m, .int .i64 reg, .int .i64 r] w fun e w' => e = .returned (.tuple #[.int .i64 1, .int .i64 19, .int .i64 reg]) ∧ w = w' := by
  have hb := and2_u8 a h0 h1
  rw [ha] at hb
  clear ha
  go_enter Try.func67, Try.ntmps67
  go_wp2
  go_ret3
  exact ⟨rfl, rfl⟩

set_option maxHeartbeats 400000 in
theorem moved_x0 (a m reg r : Int) (h0 : 0 ≤ a) (h1 : a ≤ 255) (h2 : 0 ≤ m) (h3 : m ≤ 255) (g : ¬ m / 64 = 3) (k : ¬ m % 8 = 7) (k4 : ¬ m % 8 = 4) (k6 : ¬ m % 8 = 6) (ha : a / 2 % 2 = 0) (w : World) : Calls Try.prog 67 #[.int .u8 a, .int .u8 m, .int .i64 reg, .int .i64 r] w fun e w' => e = .returned (.tuple #[.int .i64 1, .int .i64 0, .int .i64 reg]) ∧ w = w' := by
  have hb := and2_u8 a h0 h1
  rw [ha] at hb
  clear ha
  go_enter Try.func67, Try.ntmps67
  go_wp2
  go_ret3
  exact ⟨rfl, rfl⟩

set_option maxHeartbeats 400000 in
theorem moved_r1 (a m reg r : Int) (h0 : 0 ≤ a) (h1 : a ≤ 255) (h2 : 0 ≤ m) (h3 : m ≤ 255) (g : m / 64 = 3) (ha : a / 2 % 2 = 1) (w : World) : Calls Try.prog 67 #[.int .u8 a, .int .u8 m, .int .i64 reg, .int .i64 r] w fun e w' => e = .returned (.tuple #[.int .i64 1, .int .i64 reg, .int .i64 r]) ∧ w = w' := by
  have hb := and2_u8 a h0 h1
  rw [ha] at hb
  clear ha
  go_enter Try.func67, Try.ntmps67
  go_wp2
  go_ret3
  exact ⟨rfl, rfl⟩

set_option maxHeartbeats 400000 in
theorem moved_b1 (a m reg r : Int) (h0 : 0 ≤ a) (h1 : a ≤ 255) (h2 : 0 ≤ m) (h3 : m ≤ 255) (g : ¬ m / 64 = 3) (k : m % 8 = 7) (ha : a / 2 % 2 = 1) (w : World) : Calls Try.prog 67 #[.int .u8 a, .int .u8 m, .int .i64 reg, .int .i64 r] w fun e w' => e = .returned (.tuple #[.int .i64 1, .int .i64 reg, .int .i64 17]) ∧ w = w' := by
  have hb := and2_u8 a h0 h1
  rw [ha] at hb
  clear ha
  go_enter Try.func67, Try.ntmps67
  go_wp2
  go_ret3
  exact ⟨rfl, rfl⟩

set_option maxHeartbeats 400000 in
theorem moved_s1 (a m reg r : Int) (h0 : 0 ≤ a) (h1 : a ≤ 255) (h2 : 0 ≤ m) (h3 : m ≤ 255) (g : ¬ m / 64 = 3) (k : m % 8 = 4) (ha : a / 2 % 2 = 1) (w : World) : Calls Try.prog 67 #[.int .u8 a, .int .u8 m, .int .i64 reg, .int .i64 r] w fun e w' => e = .returned (.tuple #[.int .i64 1, .int .i64 reg, .int .i64 18]) ∧ w = w' := by
  have hb := and2_u8 a h0 h1
  rw [ha] at hb
  clear ha
  go_enter Try.func67, Try.ntmps67
  go_wp2
  go_ret3
  exact ⟨rfl, rfl⟩

set_option maxHeartbeats 400000 in
theorem moved_n1 (a m reg r : Int) (h0 : 0 ≤ a) (h1 : a ≤ 255) (h2 : 0 ≤ m) (h3 : m ≤ 255) (g : ¬ m / 64 = 3) (k : m % 8 = 6) (ha : a / 2 % 2 = 1) (w : World) : Calls Try.prog 67 #[.int .u8 a, .int .u8 m, .int .i64 reg, .int .i64 r] w fun e w' => e = .returned (.tuple #[.int .i64 1, .int .i64 reg, .int .i64 19]) ∧ w = w' := by
  have hb := and2_u8 a h0 h1
  rw [ha] at hb
  clear ha
  go_enter Try.func67, Try.ntmps67
  go_wp2
  go_ret3
  exact ⟨rfl, rfl⟩

set_option maxHeartbeats 400000 in
theorem moved_x1 (a m reg r : Int) (h0 : 0 ≤ a) (h1 : a ≤ 255) (h2 : 0 ≤ m) (h3 : m ≤ 255) (g : ¬ m / 64 = 3) (k : ¬ m % 8 = 7) (k4 : ¬ m % 8 = 4) (k6 : ¬ m % 8 = 6) (ha : a / 2 % 2 = 1) (w : World) : Calls Try.prog 67 #[.int .u8 a, .int .u8 m, .int .i64 reg, .int .i64 r] w fun e w' => e = .returned (.tuple #[.int .i64 1, .int .i64 reg, .int .i64 0]) ∧ w = w' := by
  have hb := and2_u8 a h0 h1
  rw [ha] at hb
  clear ha
  go_enter Try.func67, Try.ntmps67
  go_wp2
  go_ret3
  exact ⟨rfl, rfl⟩

theorem moved_any (a m reg r : Int) (h0 : 0 ≤ a) (h1 : a ≤ 255) (h2 : 0 ≤ m) (h3 : m ≤ 255) (w : World) : Calls Try.prog 67 #[.int .u8 a, .int .u8 m, .int .i64 reg, .int .i64 r] w fun e w' => e = .returned (.tuple #[.int .i64 (movedL a m reg r).1, .int .i64 (movedL a m reg r).2.1, .int .i64 (movedL a m reg r).2.2]) ∧ w = w' := by
  have ha : a / 2 % 2 = 0 ∨ a / 2 % 2 = 1 := by omega
  rcases ha with ha | ha
  · by_cases g : m / 64 = 3
    · have e : movedL a m reg r = (1, r, reg) := by simp [movedL, placeL, ha, g]
      rw [e]; exact moved_r0 a m reg r h0 h1 h2 h3 g ha w
    by_cases k : m % 8 = 7
    · have e : movedL a m reg r = (1, 17, reg) := by simp [movedL, placeL, ha, g, k]
      rw [e]; exact moved_b0 a m reg r h0 h1 h2 h3 g k ha w
    by_cases k4 : m % 8 = 4
    · have e : movedL a m reg r = (1, 18, reg) := by simp [movedL, placeL, ha, g, k4]
      rw [e]; exact moved_s0 a m reg r h0 h1 h2 h3 g k4 ha w
    by_cases k6 : m % 8 = 6
    · have e : movedL a m reg r = (1, 19, reg) := by simp [movedL, placeL, ha, g, k6]
      rw [e]; exact moved_n0 a m reg r h0 h1 h2 h3 g k6 ha w
    · have e : movedL a m reg r = (1, 0, reg) := by simp [movedL, placeL, ha, g, k, k4, k6]
      rw [e]; exact moved_x0 a m reg r h0 h1 h2 h3 g k k4 k6 ha w
  · by_cases g : m / 64 = 3
    · have e : movedL a m reg r = (1, reg, r) := by simp [movedL, placeL, ha, g]
      rw [e]; exact moved_r1 a m reg r h0 h1 h2 h3 g ha w
    by_cases k : m % 8 = 7
    · have e : movedL a m reg r = (1, reg, 17) := by simp [movedL, placeL, ha, g, k]
      rw [e]; exact moved_b1 a m reg r h0 h1 h2 h3 g k ha w
    by_cases k4 : m % 8 = 4
    · have e : movedL a m reg r = (1, reg, 18) := by simp [movedL, placeL, ha, g, k4]
      rw [e]; exact moved_s1 a m reg r h0 h1 h2 h3 g k4 ha w
    by_cases k6 : m % 8 = 6
    · have e : movedL a m reg r = (1, reg, 19) := by simp [movedL, placeL, ha, g, k6]
      rw [e]; exact moved_n1 a m reg r h0 h1 h2 h3 g k6 ha w
    · have e : movedL a m reg r = (1, reg, 0) := by simp [movedL, placeL, ha, g, k, k4, k6]
      rw [e]; exact moved_x1 a m reg r h0 h1 h2 h3 g k k4 k6 ha w

set_option maxHeartbeats 400000 in
theorem alone_160 (w : World) : Calls Try.prog 68 #[.int .u8 160] w fun e w' => e = .returned (.tuple #[.int .i64 1, .int .i64 1, .int .i64 19]) ∧ Below w.heap.size w w' := by
  go_enter Try.func68, Try.ntmps68
  go_wp2
  go_ret3
  exact ⟨rfl, Below.refl _ _⟩

set_option maxHeartbeats 400000 in
theorem alone_162 (w : World) : Calls Try.prog 68 #[.int .u8 162] w fun e w' => e = .returned (.tuple #[.int .i64 1, .int .i64 19, .int .i64 1]) ∧ Below w.heap.size w w' := by
  go_enter Try.func68, Try.ntmps68
  go_wp2
  go_ret3
  exact ⟨rfl, Below.refl _ _⟩

set_option maxHeartbeats 400000 in
theorem alone_228 (w : World) : Calls Try.prog 68 #[.int .u8 228] w fun e w' => e = .returned (.tuple #[.int .i64 30, .int .i64 1, .int .i64 20]) ∧ Below w.heap.size w w' := by
  go_enter Try.func68, Try.ntmps68
  go_wp2
  go_ret3
  exact ⟨rfl, Below.refl _ _⟩

set_option maxHeartbeats 400000 in
theorem alone_230 (w : World) : Calls Try.prog 68 #[.int .u8 230] w fun e w' => e = .returned (.tuple #[.int .i64 31, .int .i64 20, .int .i64 1]) ∧ Below w.heap.size w w' := by
  go_enter Try.func68, Try.ntmps68
  go_wp2
  go_ret3
  exact ⟨rfl, Below.refl _ _⟩

set_option maxHeartbeats 400000 in
theorem alone_233 (w : World) : Calls Try.prog 68 #[.int .u8 233] w fun e w' => e = .returned (.tuple #[.int .i64 32, .int .i64 20, .int .i64 0]) ∧ Below w.heap.size w w' := by
  go_enter Try.func68, Try.ntmps68
  go_wp2
  go_ret3
  exact ⟨rfl, Below.refl _ _⟩

set_option maxHeartbeats 400000 in
theorem alone_235 (w : World) : Calls Try.prog 68 #[.int .u8 235] w fun e w' => e = .returned (.tuple #[.int .i64 33, .int .i64 20, .int .i64 0]) ∧ Below w.heap.size w w' := by
  go_enter Try.func68, Try.ntmps68
  go_wp2
  go_ret3
  exact ⟨rfl, Below.refl _ _⟩

set_option maxHeartbeats 400000 in
theorem alone_232 (w : World) : Calls Try.prog 68 #[.int .u8 232] w fun e w' => e = .returned (.tuple #[.int .i64 34, .int .i64 20, .int .i64 0]) ∧ Below w.heap.size w w' := by
  go_enter Try.func68, Try.ntmps68
  go_wp2
  go_ret3
  exact ⟨rfl, Below.refl _ _⟩

set_option maxHeartbeats 400000 in
theorem alone_195 (w : World) : Calls Try.prog 68 #[.int .u8 195] w fun e w' => e = .returned (.tuple #[.int .i64 35, .int .i64 0, .int .i64 0]) ∧ Below w.heap.size w w' := by
  go_enter Try.func68, Try.ntmps68
  go_wp2
  go_ret3
  exact ⟨rfl, Below.refl _ _⟩

end Go.Proofs.Ytbhkndblolegaaa
