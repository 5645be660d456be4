/- The walks of isa86.guess, by classes of the first byte. -/
import Derived.Test.YtbhkndblolegaaaIg
namespace Go.Proofs.Ytbhkndblolegaaa
open Go.RowKit
set_option linter.unusedVariables false
set_option linter.unusedSimpArgs false

set_option maxRecDepth 100000 in
set_option maxHeartbeats 1000000 in
theorem guess_0 (a m : Int) (h0 : 0 ≤ a) (h1 : a ≤ 255) (h2 : 0 ≤ m) (h3 : m ≤ 255) (g : a < 64) (k : a % 8 = 0) (w : World) : Calls Try.prog 41 #[.int .u8 a, .int .u8 m] w fun e w' => e = .returned (.tuple #[.int .i64 (a / 8 + 2), .int .i64 (regL m false), .int .i64 (regL (m / 8) false)]) ∧ Below w.heap.size w w' := by
  have hm := and252_u8 a h0 h1
  have hw : (bits BinOp.and IntKind.u8 a 1 == 1) = false := wfalse_u8 a h0 h1 (by omega)
  have h81 : bits BinOp.and IntKind.u8 (a / 8) 1 = a / 8 % 2 := and1_u8 (a / 8) (by omega) (by omega)
  go_enter Try.func41, Try.ntmps41
  go_wp2_with (first
    | (go_at_call 66; refine (register_any _ _ (by omega) (by omega) _).mono ?_; rintro e w' ⟨rfl, rfl⟩))
  go_ret3
  exact ⟨rfl, Below.refl _ _⟩

set_option maxRecDepth 100000 in
set_option maxHeartbeats 1000000 in
theorem guess_1 (a m : Int) (h0 : 0 ≤ a) (h1 : a ≤ 255) (h2 : 0 ≤ m) (h3 : m ≤ 255) (g : a < 64) (k : a % 8 = 1) (w : World) : Calls Try.prog 41 #[.int .u8 a, .int .u8 m] w fun e w' => e = .returned (.tuple #[.int .i64 (a / 8 + 2), .int .i64 (regL m true), .int .i64 (regL (m / 8) true)]) ∧ Below w.heap.size w w' := by
  have hm := and252_u8 a h0 h1
  have hw : (bits BinOp.and IntKind.u8 a 1 == 1) = true := wtrue_u8 a h0 h1 (by omega)
  have h81 : bits BinOp.and IntKind.u8 (a / 8) 1 = a / 8 % 2 := and1_u8 (a / 8) (by omega) (by omega)
  go_enter Try.func41, Try.ntmps41
  go_wp2_with (first
    | (go_at_call 66; refine (register_any _ _ (by omega) (by omega) _).mono ?_; rintro e w' ⟨rfl, rfl⟩))
  go_ret3
  exact ⟨rfl, Below.refl _ _⟩

set_option maxRecDepth 100000 in
set_option maxHeartbeats 1000000 in
theorem guess_2 (a m : Int) (h0 : 0 ≤ a) (h1 : a ≤ 255) (h2 : 0 ≤ m) (h3 : m ≤ 255) (g : a < 64) (k : a % 8 = 2) (w : World) : Calls Try.prog 41 #[.int .u8 a, .int .u8 m] w fun e w' => e = .returned (.tuple #[.int .i64 (a / 8 + 2), .int .i64 (regL (m / 8) false), .int .i64 17]) ∧ Below w.heap.size w w' := by
  have hm := and252_u8 a h0 h1
  have hw : (bits BinOp.and IntKind.u8 a 1 == 1) = false := wfalse_u8 a h0 h1 (by omega)
  have h81 : bits BinOp.and IntKind.u8 (a / 8) 1 = a / 8 % 2 := and1_u8 (a / 8) (by omega) (by omega)
  go_enter Try.func41, Try.ntmps41
  go_wp2_with (first
    | (go_at_call 66; refine (register_any _ _ (by omega) (by omega) _).mono ?_; rintro e w' ⟨rfl, rfl⟩))
  go_ret3
  exact ⟨rfl, Below.refl _ _⟩

set_option maxRecDepth 100000 in
set_option maxHeartbeats 1000000 in
theorem guess_3 (a m : Int) (h0 : 0 ≤ a) (h1 : a ≤ 255) (h2 : 0 ≤ m) (h3 : m ≤ 255) (g : a < 64) (k : a % 8 = 4) (w : World) : Calls Try.prog 41 #[.int .u8 a, .int .u8 m] w fun e w' => e = .returned (.tuple #[.int .i64 (a / 8 + 2), .int .i64 1, .int .i64 20]) ∧ Below w.heap.size w w' := by
  have hm := and252_u8 a h0 h1
  have hw : (bits BinOp.and IntKind.u8 a 1 == 1) = false := wfalse_u8 a h0 h1 (by omega)
  have h81 : bits BinOp.and IntKind.u8 (a / 8) 1 = a / 8 % 2 := and1_u8 (a / 8) (by omega) (by omega)
  go_enter Try.func41, Try.ntmps41
  go_wp2_with (first
    | (go_at_call 66; refine (register_any _ _ (by omega) (by omega) _).mono ?_; rintro e w' ⟨rfl, rfl⟩))
  go_ret3
  exact ⟨rfl, Below.refl _ _⟩

set_option maxRecDepth 100000 in
set_option maxHeartbeats 1000000 in
theorem guess_4 (m : Int) (h2 : 0 ≤ m) (h3 : m ≤ 255)  (w : World) : Calls Try.prog 41 #[.int .u8 39, .int .u8 m] w fun e w' => e = .returned (.tuple #[.int .i64 22, .int .i64 0, .int .i64 0]) ∧ Below w.heap.size w w' := by
  have hm : bits BinOp.and IntKind.u8 39 252 = 36 := by decide +kernel
  have hw : (bits BinOp.and IntKind.u8 39 1 == 1) = true := by decide +kernel
  go_enter Try.func41, Try.ntmps41
  go_wp2_with (first
    | (go_at_call 66; refine (register_any _ _ (by omega) (by omega) _).mono ?_; rintro e w' ⟨rfl, rfl⟩))
  go_ret3
  exact ⟨rfl, Below.refl _ _⟩

set_option maxRecDepth 100000 in
set_option maxHeartbeats 1000000 in
theorem guess_5 (a m : Int) (h0 : 0 ≤ a) (h1 : a ≤ 255) (h2 : 0 ≤ m) (h3 : m ≤ 255) (g : a / 16 = 4) (ka : ¬ a % 2 = 1) (w : World) : Calls Try.prog 41 #[.int .u8 a, .int .u8 m] w fun e w' => e = .returned (.tuple #[.int .i64 (10 + a / 8 % 2), .int .i64 (regL a true), .int .i64 0]) ∧ Below w.heap.size w w' := by
  have hm := and252_u8 a h0 h1
  have hw : (bits BinOp.and IntKind.u8 a 1 == 1) = false := wfalse_u8 a h0 h1 (by omega)
  have h81 : bits BinOp.and IntKind.u8 (a / 8) 1 = a / 8 % 2 := and1_u8 (a / 8) (by omega) (by omega)
  go_enter Try.func41, Try.ntmps41
  go_wp2_with (first
    | (go_at_call 66; refine (register_any _ _ (by omega) (by omega) _).mono ?_; rintro e w' ⟨rfl, rfl⟩))
  go_ret3
  exact ⟨rfl, Below.refl _ _⟩

set_option maxRecDepth 100000 in
set_option maxHeartbeats 1000000 in
theorem guess_6 (a m : Int) (h0 : 0 ≤ a) (h1 : a ≤ 255) (h2 : 0 ≤ m) (h3 : m ≤ 255) (g : a / 16 = 4) (ka : a % 2 = 1) (w : World) : Calls Try.prog 41 #[.int .u8 a, .int .u8 m] w fun e w' => e = .returned (.tuple #[.int .i64 (10 + a / 8 % 2), .int .i64 (regL a true), .int .i64 0]) ∧ Below w.heap.size w w' := by
  have hm := and252_u8 a h0 h1
  have hw : (bits BinOp.and IntKind.u8 a 1 == 1) = true := wtrue_u8 a h0 h1 (by omega)
  have h81 : bits BinOp.and IntKind.u8 (a / 8) 1 = a / 8 % 2 := and1_u8 (a / 8) (by omega) (by omega)
  go_enter Try.func41, Try.ntmps41
  go_wp2_with (first
    | (go_at_call 66; refine (register_any _ _ (by omega) (by omega) _).mono ?_; rintro e w' ⟨rfl, rfl⟩))
  go_ret3
  exact ⟨rfl, Below.refl _ _⟩

set_option maxRecDepth 100000 in
set_option maxHeartbeats 1000000 in
theorem guess_7 (a m : Int) (h0 : 0 ≤ a) (h1 : a ≤ 255) (h2 : 0 ≤ m) (h3 : m ≤ 255) (g : a / 16 = 5) (ka : ¬ a % 2 = 1) (w : World) : Calls Try.prog 41 #[.int .u8 a, .int .u8 m] w fun e w' => e = .returned (.tuple #[.int .i64 (18 + a / 8 % 2), .int .i64 (regL a true), .int .i64 0]) ∧ Below w.heap.size w w' := by
  have hm := and252_u8 a h0 h1
  have hw : (bits BinOp.and IntKind.u8 a 1 == 1) = false := wfalse_u8 a h0 h1 (by omega)
  have h81 : bits BinOp.and IntKind.u8 (a / 8) 1 = a / 8 % 2 := and1_u8 (a / 8) (by omega) (by omega)
  go_enter Try.func41, Try.ntmps41
  go_wp2_with (first
    | (go_at_call 66; refine (register_any _ _ (by omega) (by omega) _).mono ?_; rintro e w' ⟨rfl, rfl⟩))
  go_ret3
  exact ⟨rfl, Below.refl _ _⟩

set_option maxRecDepth 100000 in
set_option maxHeartbeats 1000000 in
theorem guess_8 (a m : Int) (h0 : 0 ≤ a) (h1 : a ≤ 255) (h2 : 0 ≤ m) (h3 : m ≤ 255) (g : a / 16 = 5) (ka : a % 2 = 1) (w : World) : Calls Try.prog 41 #[.int .u8 a, .int .u8 m] w fun e w' => e = .returned (.tuple #[.int .i64 (18 + a / 8 % 2), .int .i64 (regL a true), .int .i64 0]) ∧ Below w.heap.size w w' := by
  have hm := and252_u8 a h0 h1
  have hw : (bits BinOp.and IntKind.u8 a 1 == 1) = true := wtrue_u8 a h0 h1 (by omega)
  have h81 : bits BinOp.and IntKind.u8 (a / 8) 1 = a / 8 % 2 := and1_u8 (a / 8) (by omega) (by omega)
  go_enter Try.func41, Try.ntmps41
  go_wp2_with (first
    | (go_at_call 66; refine (register_any _ _ (by omega) (by omega) _).mono ?_; rintro e w' ⟨rfl, rfl⟩))
  go_ret3
  exact ⟨rfl, Below.refl _ _⟩

set_option maxRecDepth 100000 in
set_option maxHeartbeats 1000000 in
theorem guess_9 (a m : Int) (h0 : 0 ≤ a) (h1 : a ≤ 255) (h2 : 0 ≤ m) (h3 : m ≤ 255) (g : a / 16 = 7) (ka : ¬ a % 2 = 1) (w : World) : Calls Try.prog 41 #[.int .u8 a, .int .u8 m] w fun e w' => e = .returned (.tuple #[.int .i64 (40 + a % 16), .int .i64 20, .int .i64 0]) ∧ Below w.heap.size w w' := by
  have hm := and252_u8 a h0 h1
  have hw : (bits BinOp.and IntKind.u8 a 1 == 1) = false := wfalse_u8 a h0 h1 (by omega)
  have h81 : bits BinOp.and IntKind.u8 (a / 8) 1 = a / 8 % 2 := and1_u8 (a / 8) (by omega) (by omega)
  go_enter Try.func41, Try.ntmps41
  go_wp2_with (first
    | (go_at_call 66; refine (register_any _ _ (by omega) (by omega) _).mono ?_; rintro e w' ⟨rfl, rfl⟩))
  go_ret3
  exact ⟨rfl, Below.refl _ _⟩

set_option maxRecDepth 100000 in
set_option maxHeartbeats 1000000 in
theorem guess_10 (a m : Int) (h0 : 0 ≤ a) (h1 : a ≤ 255) (h2 : 0 ≤ m) (h3 : m ≤ 255) (g : a / 16 = 7) (ka : a % 2 = 1) (w : World) : Calls Try.prog 41 #[.int .u8 a, .int .u8 m] w fun e w' => e = .returned (.tuple #[.int .i64 (40 + a % 16), .int .i64 20, .int .i64 0]) ∧ Below w.heap.size w w' := by
  have hm := and252_u8 a h0 h1
  have hw : (bits BinOp.and IntKind.u8 a 1 == 1) = true := wtrue_u8 a h0 h1 (by omega)
  have h81 : bits BinOp.and IntKind.u8 (a / 8) 1 = a / 8 % 2 := and1_u8 (a / 8) (by omega) (by omega)
  go_enter Try.func41, Try.ntmps41
  go_wp2_with (first
    | (go_at_call 66; refine (register_any _ _ (by omega) (by omega) _).mono ?_; rintro e w' ⟨rfl, rfl⟩))
  go_ret3
  exact ⟨rfl, Below.refl _ _⟩

set_option maxRecDepth 100000 in
set_option maxHeartbeats 1000000 in
theorem guess_11 (m : Int) (h2 : 0 ≤ m) (h3 : m ≤ 255)  (w : World) : Calls Try.prog 41 #[.int .u8 128, .int .u8 m] w fun e w' => e = .returned (.tuple #[.int .i64 (m / 8 % 8 + 2), .int .i64 (regL m false), .int .i64 20]) ∧ Below w.heap.size w w' := by
  have hm : bits BinOp.and IntKind.u8 128 252 = 128 := by decide +kernel
  have hw : (bits BinOp.and IntKind.u8 128 1 == 1) = false := by decide +kernel
  go_enter Try.func41, Try.ntmps41
  go_wp2_with (first
    | (go_at_call 66; refine (register_any _ _ (by omega) (by omega) _).mono ?_; rintro e w' ⟨rfl, rfl⟩))
  go_ret3
  exact ⟨rfl, Below.refl _ _⟩

set_option maxRecDepth 100000 in
set_option maxHeartbeats 1000000 in
theorem guess_12 (m : Int) (h2 : 0 ≤ m) (h3 : m ≤ 255)  (w : World) : Calls Try.prog 41 #[.int .u8 134, .int .u8 m] w fun e w' => e = .returned (.tuple #[.int .i64 17, .int .i64 (regL m false), .int .i64 (regL (m / 8) false)]) ∧ Below w.heap.size w w' := by
  have hm : bits BinOp.and IntKind.u8 134 252 = 132 := by decide +kernel
  have hw : (bits BinOp.and IntKind.u8 134 1 == 1) = false := by decide +kernel
  go_enter Try.func41, Try.ntmps41
  go_wp2_with (first
    | (go_at_call 66; refine (register_any _ _ (by omega) (by omega) _).mono ?_; rintro e w' ⟨rfl, rfl⟩))
  go_ret3
  exact ⟨rfl, Below.refl _ _⟩

set_option maxRecDepth 100000 in
set_option maxHeartbeats 1000000 in
theorem guess_13 (m : Int) (h2 : 0 ≤ m) (h3 : m ≤ 255)  (w : World) : Calls Try.prog 41 #[.int .u8 135, .int .u8 m] w fun e w' => e = .returned (.tuple #[.int .i64 17, .int .i64 (regL m true), .int .i64 (regL (m / 8) true)]) ∧ Below w.heap.size w w' := by
  have hm : bits BinOp.and IntKind.u8 135 252 = 132 := by decide +kernel
  have hw : (bits BinOp.and IntKind.u8 135 1 == 1) = true := by decide +kernel
  go_enter Try.func41, Try.ntmps41
  go_wp2_with (first
    | (go_at_call 66; refine (register_any _ _ (by omega) (by omega) _).mono ?_; rintro e w' ⟨rfl, rfl⟩))
  go_ret3
  exact ⟨rfl, Below.refl _ _⟩

set_option maxRecDepth 100000 in
set_option maxHeartbeats 1000000 in
theorem guess_14 (a m : Int) (h0 : 0 ≤ a) (h1 : a ≤ 255) (h2 : 0 ≤ m) (h3 : m ≤ 255) (g : a / 8 = 22) (ka : ¬ a % 2 = 1) (w : World) : Calls Try.prog 41 #[.int .u8 a, .int .u8 m] w fun e w' => e = .returned (.tuple #[.int .i64 1, .int .i64 (regL a false), .int .i64 20]) ∧ Below w.heap.size w w' := by
  have hm := and252_u8 a h0 h1
  have hw : (bits BinOp.and IntKind.u8 a 1 == 1) = false := wfalse_u8 a h0 h1 (by omega)
  have h81 : bits BinOp.and IntKind.u8 (a / 8) 1 = a / 8 % 2 := and1_u8 (a / 8) (by omega) (by omega)
  go_enter Try.func41, Try.ntmps41
  go_wp2_with (first
    | (go_at_call 66; refine (register_any _ _ (by omega) (by omega) _).mono ?_; rintro e w' ⟨rfl, rfl⟩))
  go_ret3
  exact ⟨rfl, Below.refl _ _⟩

set_option maxRecDepth 100000 in
set_option maxHeartbeats 1000000 in
theorem guess_15 (a m : Int) (h0 : 0 ≤ a) (h1 : a ≤ 255) (h2 : 0 ≤ m) (h3 : m ≤ 255) (g : a / 8 = 22) (ka : a % 2 = 1) (w : World) : Calls Try.prog 41 #[.int .u8 a, .int .u8 m] w fun e w' => e = .returned (.tuple #[.int .i64 1, .int .i64 (regL a false), .int .i64 20]) ∧ Below w.heap.size w w' := by
  have hm := and252_u8 a h0 h1
  have hw : (bits BinOp.and IntKind.u8 a 1 == 1) = true := wtrue_u8 a h0 h1 (by omega)
  have h81 : bits BinOp.and IntKind.u8 (a / 8) 1 = a / 8 % 2 := and1_u8 (a / 8) (by omega) (by omega)
  go_enter Try.func41, Try.ntmps41
  go_wp2_with (first
    | (go_at_call 66; refine (register_any _ _ (by omega) (by omega) _).mono ?_; rintro e w' ⟨rfl, rfl⟩))
  go_ret3
  exact ⟨rfl, Below.refl _ _⟩

set_option maxRecDepth 100000 in
set_option maxHeartbeats 1000000 in
theorem guess_16 (a m : Int) (h0 : 0 ≤ a) (h1 : a ≤ 255) (h2 : 0 ≤ m) (h3 : m ≤ 255) (g : a / 8 = 23) (ka : ¬ a % 2 = 1) (w : World) : Calls Try.prog 41 #[.int .u8 a, .int .u8 m] w fun e w' => e = .returned (.tuple #[.int .i64 1, .int .i64 (regL a true), .int .i64 20]) ∧ Below w.heap.size w w' := by
  have hm := and252_u8 a h0 h1
  have hw : (bits BinOp.and IntKind.u8 a 1 == 1) = false := wfalse_u8 a h0 h1 (by omega)
  have h81 : bits BinOp.and IntKind.u8 (a / 8) 1 = a / 8 % 2 := and1_u8 (a / 8) (by omega) (by omega)
  go_enter Try.func41, Try.ntmps41
  go_wp2_with (first
    | (go_at_call 66; refine (register_any _ _ (by omega) (by omega) _).mono ?_; rintro e w' ⟨rfl, rfl⟩))
  go_ret3
  exact ⟨rfl, Below.refl _ _⟩

set_option maxRecDepth 100000 in
set_option maxHeartbeats 1000000 in
theorem guess_17 (a m : Int) (h0 : 0 ≤ a) (h1 : a ≤ 255) (h2 : 0 ≤ m) (h3 : m ≤ 255) (g : a / 8 = 23) (ka : a % 2 = 1) (w : World) : Calls Try.prog 41 #[.int .u8 a, .int .u8 m] w fun e w' => e = .returned (.tuple #[.int .i64 1, .int .i64 (regL a true), .int .i64 20]) ∧ Below w.heap.size w w' := by
  have hm := and252_u8 a h0 h1
  have hw : (bits BinOp.and IntKind.u8 a 1 == 1) = true := wtrue_u8 a h0 h1 (by omega)
  have h81 : bits BinOp.and IntKind.u8 (a / 8) 1 = a / 8 % 2 := and1_u8 (a / 8) (by omega) (by omega)
  go_enter Try.func41, Try.ntmps41
  go_wp2_with (first
    | (go_at_call 66; refine (register_any _ _ (by omega) (by omega) _).mono ?_; rintro e w' ⟨rfl, rfl⟩))
  go_ret3
  exact ⟨rfl, Below.refl _ _⟩

set_option maxRecDepth 100000 in
set_option maxHeartbeats 1000000 in
theorem guess_18 (m : Int) (h2 : 0 ≤ m) (h3 : m ≤ 255)  (w : World) : Calls Try.prog 41 #[.int .u8 198, .int .u8 m] w fun e w' => e = .returned (.tuple #[.int .i64 1, .int .i64 17, .int .i64 20]) ∧ Below w.heap.size w w' := by
  have hm : bits BinOp.and IntKind.u8 198 252 = 196 := by decide +kernel
  have hw : (bits BinOp.and IntKind.u8 198 1 == 1) = false := by decide +kernel
  go_enter Try.func41, Try.ntmps41
  go_wp2_with (first
    | (go_at_call 66; refine (register_any _ _ (by omega) (by omega) _).mono ?_; rintro e w' ⟨rfl, rfl⟩))
  go_ret3
  exact ⟨rfl, Below.refl _ _⟩

set_option maxRecDepth 100000 in
set_option maxHeartbeats 1000000 in
theorem guess_19 (m : Int) (h2 : 0 ≤ m) (h3 : m ≤ 255)  (w : World) : Calls Try.prog 41 #[.int .u8 208, .int .u8 m] w fun e w' => e = .returned (.tuple #[.int .i64 (12 + m / 8 % 8), .int .i64 (regL m false), .int .i64 0]) ∧ Below w.heap.size w w' := by
  have hm : bits BinOp.and IntKind.u8 208 252 = 208 := by decide +kernel
  have hw : (bits BinOp.and IntKind.u8 208 1 == 1) = false := by decide +kernel
  go_enter Try.func41, Try.ntmps41
  go_wp2_with (first
    | (go_at_call 66; refine (register_any _ _ (by omega) (by omega) _).mono ?_; rintro e w' ⟨rfl, rfl⟩))
  go_ret3
  exact ⟨rfl, Below.refl _ _⟩

set_option maxRecDepth 100000 in
set_option maxHeartbeats 1000000 in
theorem guess_20 (m : Int) (h2 : 0 ≤ m) (h3 : m ≤ 255)  (w : World) : Calls Try.prog 41 #[.int .u8 209, .int .u8 m] w fun e w' => e = .returned (.tuple #[.int .i64 (12 + m / 8 % 8), .int .i64 (regL m true), .int .i64 0]) ∧ Below w.heap.size w w' := by
  have hm : bits BinOp.and IntKind.u8 209 252 = 208 := by decide +kernel
  have hw : (bits BinOp.and IntKind.u8 209 1 == 1) = true := by decide +kernel
  go_enter Try.func41, Try.ntmps41
  go_wp2_with (first
    | (go_at_call 66; refine (register_any _ _ (by omega) (by omega) _).mono ?_; rintro e w' ⟨rfl, rfl⟩))
  go_ret3
  exact ⟨rfl, Below.refl _ _⟩

set_option maxRecDepth 100000 in
set_option maxHeartbeats 1000000 in
theorem guess_21 (m : Int) (h2 : 0 ≤ m) (h3 : m ≤ 255)  (w : World) : Calls Try.prog 41 #[.int .u8 246, .int .u8 m] w fun e w' => e = .returned (.tuple #[.int .i64 16, .int .i64 (regL m false), .int .i64 0]) ∧ Below w.heap.size w w' := by
  have hm : bits BinOp.and IntKind.u8 246 252 = 244 := by decide +kernel
  have hw : (bits BinOp.and IntKind.u8 246 1 == 1) = false := by decide +kernel
  go_enter Try.func41, Try.ntmps41
  go_wp2_with (first
    | (go_at_call 66; refine (register_any _ _ (by omega) (by omega) _).mono ?_; rintro e w' ⟨rfl, rfl⟩))
  go_ret3
  exact ⟨rfl, Below.refl _ _⟩

set_option maxRecDepth 100000 in
set_option maxHeartbeats 1000000 in
theorem guess_22 (m : Int) (h2 : 0 ≤ m) (h3 : m ≤ 255) (g : m / 64 = 0) (w : World) : Calls Try.prog 41 #[.int .u8 254, .int .u8 m] w fun e w' => e = .returned (.tuple #[.int .i64 (10 + m / 8 % 8), .int .i64 17, .int .i64 0]) ∧ Below w.heap.size w w' := by
  have hm : bits BinOp.and IntKind.u8 254 252 = 252 := by decide +kernel
  have hw : (bits BinOp.and IntKind.u8 254 1 == 1) = false := by decide +kernel
  go_enter Try.func41, Try.ntmps41
  go_wp2_with (first
    | (go_at_call 66; refine (register_any _ _ (by omega) (by omega) _).mono ?_; rintro e w' ⟨rfl, rfl⟩))
  go_ret3
  exact ⟨rfl, Below.refl _ _⟩

set_option maxRecDepth 100000 in
set_option maxHeartbeats 1000000 in
theorem guess_23 (m : Int) (h2 : 0 ≤ m) (h3 : m ≤ 255) (g : ¬ m / 64 = 0) (w : World) : Calls Try.prog 41 #[.int .u8 254, .int .u8 m] w fun e w' => e = .returned (.tuple #[.int .i64 (10 + m / 8 % 8), .int .i64 (regL m false), .int .i64 0]) ∧ Below w.heap.size w w' := by
  have hm : bits BinOp.and IntKind.u8 254 252 = 252 := by decide +kernel
  have hw : (bits BinOp.and IntKind.u8 254 1 == 1) = false := by decide +kernel
  go_enter Try.func41, Try.ntmps41
  go_wp2_with (first
    | (go_at_call 66; refine (register_any _ _ (by omega) (by omega) _).mono ?_; rintro e w' ⟨rfl, rfl⟩))
  go_ret3
  exact ⟨rfl, Below.refl _ _⟩

set_option maxRecDepth 100000 in
set_option maxHeartbeats 1000000 in
theorem guess_24 (a m : Int) (h0 : 0 ≤ a) (h1 : a ≤ 255) (h2 : 0 ≤ m) (h3 : m ≤ 255) (g : a / 4 = 34) (ka : ¬ a % 2 = 1) (w : World) : Calls Try.prog 41 #[.int .u8 a, .int .u8 m] w fun e w' => e = .returned (.tuple #[.int .i64 (movedL a m (regL (m / 8) false) (regL m false)).1, .int .i64 (movedL a m (regL (m / 8) false) (regL m false)).2.1, .int .i64 (movedL a m (regL (m / 8) false) (regL m false)).2.2]) ∧ Below w.heap.size w w' := by
  have hm := and252_u8 a h0 h1
  have hw : (bits BinOp.and IntKind.u8 a 1 == 1) = false := wfalse_u8 a h0 h1 (by omega)
  have h81 : bits BinOp.and IntKind.u8 (a / 8) 1 = a / 8 % 2 := and1_u8 (a / 8) (by omega) (by omega)
  go_enter Try.func41, Try.ntmps41
  go_wp2_with (first
    | (go_at_call 66; refine (register_any _ _ (by omega) (by omega) _).mono ?_; rintro e w' ⟨rfl, rfl⟩)
    | (go_at_call 67; refine (moved_any _ _ _ _ (by omega) (by omega) (by omega) (by omega) _).mono ?_; rintro e w' ⟨rfl, rfl⟩))
  go_ret3
  exact ⟨rfl, Below.refl _ _⟩

set_option maxRecDepth 100000 in
set_option maxHeartbeats 1000000 in
theorem guess_25 (a m : Int) (h0 : 0 ≤ a) (h1 : a ≤ 255) (h2 : 0 ≤ m) (h3 : m ≤ 255) (g : a / 4 = 34) (ka : a % 2 = 1) (w : World) : Calls Try.prog 41 #[.int .u8 a, .int .u8 m] w fun e w' => e = .returned (.tuple #[.int .i64 (movedL a m (regL (m / 8) true) (regL m true)).1, .int .i64 (movedL a m (regL (m / 8) true) (regL m true)).2.1, .int .i64 (movedL a m (regL (m / 8) true) (regL m true)).2.2]) ∧ Below w.heap.size w w' := by
  have hm := and252_u8 a h0 h1
  have hw : (bits BinOp.and IntKind.u8 a 1 == 1) = true := wtrue_u8 a h0 h1 (by omega)
  have h81 : bits BinOp.and IntKind.u8 (a / 8) 1 = a / 8 % 2 := and1_u8 (a / 8) (by omega) (by omega)
  go_enter Try.func41, Try.ntmps41
  go_wp2_with (first
    | (go_at_call 66; refine (register_any _ _ (by omega) (by omega) _).mono ?_; rintro e w' ⟨rfl, rfl⟩)
    | (go_at_call 67; refine (moved_any _ _ _ _ (by omega) (by omega) (by omega) (by omega) _).mono ?_; rintro e w' ⟨rfl, rfl⟩))
  go_ret3
  exact ⟨rfl, Below.refl _ _⟩

set_option maxRecDepth 100000 in
set_option maxHeartbeats 1000000 in
theorem guess_26 (m : Int) (h2 : 0 ≤ m) (h3 : m ≤ 255)  (w : World) : Calls Try.prog 41 #[.int .u8 160, .int .u8 m] w fun e w' => e = .returned (.tuple #[.int .i64 1, .int .i64 1, .int .i64 19]) ∧ Below w.heap.size w w' := by
  have hm : bits BinOp.and IntKind.u8 160 252 = 160 := by decide +kernel
  have hw : (bits BinOp.and IntKind.u8 160 1 == 1) = false := by decide +kernel
  go_enter Try.func41, Try.ntmps41
  go_wp2_with (first
    | (go_at_call 66; refine (register_any _ _ (by omega) (by omega) _).mono ?_; rintro e w' ⟨rfl, rfl⟩)
    | (go_at_call 68; refine (alone_160 _).mono ?_; rintro e w1 ⟨rfl, hb⟩))
  go_ret3
  exact ⟨rfl, hb⟩

set_option maxRecDepth 100000 in
set_option maxHeartbeats 1000000 in
theorem guess_27 (m : Int) (h2 : 0 ≤ m) (h3 : m ≤ 255)  (w : World) : Calls Try.prog 41 #[.int .u8 162, .int .u8 m] w fun e w' => e = .returned (.tuple #[.int .i64 1, .int .i64 19, .int .i64 1]) ∧ Below w.heap.size w w' := by
  have hm : bits BinOp.and IntKind.u8 162 252 = 160 := by decide +kernel
  have hw : (bits BinOp.and IntKind.u8 162 1 == 1) = false := by decide +kernel
  go_enter Try.func41, Try.ntmps41
  go_wp2_with (first
    | (go_at_call 66; refine (register_any _ _ (by omega) (by omega) _).mono ?_; rintro e w' ⟨rfl, rfl⟩)
    | (go_at_call 68; refine (alone_162 _).mono ?_; rintro e w1 ⟨rfl, hb⟩))
  go_ret3
  exact ⟨rfl, hb⟩

set_option maxRecDepth 100000 in
set_option maxHeartbeats 1000000 in
theorem guess_28 (m : Int) (h2 : 0 ≤ m) (h3 : m ≤ 255)  (w : World) : Calls Try.prog 41 #[.int .u8 228, .int .u8 m] w fun e w' => e = .returned (.tuple #[.int .i64 30, .int .i64 1, .int .i64 20]) ∧ Below w.heap.size w w' := by
  have hm : bits BinOp.and IntKind.u8 228 252 = 228 := by decide +kernel
  have hw : (bits BinOp.and IntKind.u8 228 1 == 1) = false := by decide +kernel
  go_enter Try.func41, Try.ntmps41
  go_wp2_with (first
    | (go_at_call 66; refine (register_any _ _ (by omega) (by omega) _).mono ?_; rintro e w' ⟨rfl, rfl⟩)
    | (go_at_call 68; refine (alone_228 _).mono ?_; rintro e w1 ⟨rfl, hb⟩))
  go_ret3
  exact ⟨rfl, hb⟩

set_option maxRecDepth 100000 in
set_option maxHeartbeats 1000000 in
theorem guess_29 (m : Int) (h2 : 0 ≤ m) (h3 : m ≤ 255)  (w : World) : Calls Try.prog 41 #[.int .u8 230, .int .u8 m] w fun e w' => e = .returned (.tuple #[.int .i64 31, .int .i64 20, .int .i64 1]) ∧ Below w.heap.size w w' := by
  have hm : bits BinOp.and IntKind.u8 230 252 = 228 := by decide +kernel
  have hw : (bits BinOp.and IntKind.u8 230 1 == 1) = false := by decide +kernel
  go_enter Try.func41, Try.ntmps41
  go_wp2_with (first
    | (go_at_call 66; refine (register_any _ _ (by omega) (by omega) _).mono ?_; rintro e w' ⟨rfl, rfl⟩)
    | (go_at_call 68; refine (alone_230 _).mono ?_; rintro e w1 ⟨rfl, hb⟩))
  go_ret3
  exact ⟨rfl, hb⟩

set_option maxRecDepth 100000 in
set_option maxHeartbeats 1000000 in
theorem guess_30 (m : Int) (h2 : 0 ≤ m) (h3 : m ≤ 255)  (w : World) : Calls Try.prog 41 #[.int .u8 233, .int .u8 m] w fun e w' => e = .returned (.tuple #[.int .i64 32, .int .i64 20, .int .i64 0]) ∧ Below w.heap.size w w' := by
  have hm : bits BinOp.and IntKind.u8 233 252 = 232 := by decide +kernel
  have hw : (bits BinOp.and IntKind.u8 233 1 == 1) = true := by decide +kernel
  go_enter Try.func41, Try.ntmps41
  go_wp2_with (first
    | (go_at_call 66; refine (register_any _ _ (by omega) (by omega) _).mono ?_; rintro e w' ⟨rfl, rfl⟩)
    | (go_at_call 68; refine (alone_233 _).mono ?_; rintro e w1 ⟨rfl, hb⟩))
  go_ret3
  exact ⟨rfl, hb⟩

set_option maxRecDepth 100000 in
set_option maxHeartbeats 1000000 in
theorem guess_31 (m : Int) (h2 : 0 ≤ m) (h3 : m ≤ 255)  (w : World) : Calls Try.prog 41 #[.int .u8 235, .int .u8 m] w fun e w' => e = .returned (.tuple #[.int .i64 33, .int .i64 20, .int .i64 0]) ∧ Below w.heap.size w w' := by
  have hm : bits BinOp.and IntKind.u8 235 252 = 232 := by decide +kernel
  have hw : (bits BinOp.and IntKind.u8 235 1 == 1) = true := by decide +kernel
  go_enter Try.func41, Try.ntmps41
  go_wp2_with (first
    | (go_at_call 66; refine (register_any _ _ (by omega) (by omega) _).mono ?_; rintro e w' ⟨rfl, rfl⟩)
    | (go_at_call 68; refine (alone_235 _).mono ?_; rintro e w1 ⟨rfl, hb⟩))
  go_ret3
  exact ⟨rfl, hb⟩

set_option maxRecDepth 100000 in
set_option maxHeartbeats 1000000 in
theorem guess_32 (m : Int) (h2 : 0 ≤ m) (h3 : m ≤ 255)  (w : World) : Calls Try.prog 41 #[.int .u8 232, .int .u8 m] w fun e w' => e = .returned (.tuple #[.int .i64 34, .int .i64 20, .int .i64 0]) ∧ Below w.heap.size w w' := by
  have hm : bits BinOp.and IntKind.u8 232 252 = 232 := by decide +kernel
  have hw : (bits BinOp.and IntKind.u8 232 1 == 1) = false := by decide +kernel
  go_enter Try.func41, Try.ntmps41
  go_wp2_with (first
    | (go_at_call 66; refine (register_any _ _ (by omega) (by omega) _).mono ?_; rintro e w' ⟨rfl, rfl⟩)
    | (go_at_call 68; refine (alone_232 _).mono ?_; rintro e w1 ⟨rfl, hb⟩))
  go_ret3
  exact ⟨rfl, hb⟩

set_option maxRecDepth 100000 in
set_option maxHeartbeats 1000000 in
theorem guess_33 (m : Int) (h2 : 0 ≤ m) (h3 : m ≤ 255)  (w : World) : Calls Try.prog 41 #[.int .u8 195, .int .u8 m] w fun e w' => e = .returned (.tuple #[.int .i64 35, .int .i64 0, .int .i64 0]) ∧ Below w.heap.size w w' := by
  have hm : bits BinOp.and IntKind.u8 195 252 = 192 := by decide +kernel
  have hw : (bits BinOp.and IntKind.u8 195 1 == 1) = true := by decide +kernel
  go_enter Try.func41, Try.ntmps41
  go_wp2_with (first
    | (go_at_call 66; refine (register_any _ _ (by omega) (by omega) _).mono ?_; rintro e w' ⟨rfl, rfl⟩)
    | (go_at_call 68; refine (alone_195 _).mono ?_; rintro e w1 ⟨rfl, hb⟩))
  go_ret3
  exact ⟨rfl, hb⟩

end Go.Proofs.Ytbhkndblolegaaa
