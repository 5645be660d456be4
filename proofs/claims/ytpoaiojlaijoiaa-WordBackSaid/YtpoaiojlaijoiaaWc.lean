/- The walks of package word's functions, more: turns, sums of words, the flags' byte, tens. -/
import Derived.Test.YtpoaiojlaijoiaaWb
namespace Go.Proofs.Ytpoaiojlaijoiaa
open Go.RowKit
set_option linter.unusedVariables false
set_option linter.unusedSimpArgs false

set_option maxHeartbeats 400000 in
theorem add16_any (a b : Int) (h0 : 0 ≤ a) (h1 : a ≤ 65535) (h2 : 0 ≤ b) (h3 : b ≤ 65535) (w : World) :
    Calls Try.prog 22 #[.int .u16 a, .int .u16 b] w fun e w' => e = .returned (.tuple #[.int .u16 ((a + b) % 65536), .bool (decide (65535 < a + b))]) ∧ Below w.heap.size w w' := by
  go_enter Try.func22, Try.ntmps22
  go_wp2_with fail
  refine (sum2_any _ a b h0 h1 h2 h3 _ (by go_simp) (by go_simp)).mono ?_; rintro e w' ⟨rfl, rfl⟩
  go_wp2
  go_ret2
  exact ⟨rfl, balloc (Below.refl _ _) _⟩

set_option maxHeartbeats 400000 in
theorem rotl_any (a : Int) (h0 : 0 ≤ a) (h1 : a ≤ 255) (w : World) :
    Calls Try.prog 49 #[.int .u8 a, .int .i64 1] w fun e w' => e = .returned (.int .u8 ((a * 2 + a / 128) % 256)) ∧ w = w' := by
  have x1 : bits .and .u64 1 7 = 1 := by decide
  have x2 : bits .and .u64 (IntKind.u64.wrap (-1)) 7 = 7 := by decide +kernel
  go_enter Try.func49, Try.ntmps49
  have x3 := rotl_or a h0 h1
  go_wp2
  go_ret
  exact ⟨rfl, rfl⟩

set_option maxHeartbeats 400000 in
theorem rotr_any (a : Int) (h0 : 0 ≤ a) (h1 : a ≤ 255) (w : World) :
    Calls Try.prog 49 #[.int .u8 a, .int .i64 (-1)] w fun e w' => e = .returned (.int .u8 (a / 2 + a % 2 * 128)) ∧ w = w' := by
  have x1 : bits .and .u64 1 7 = 1 := by decide
  have x2 : bits .and .u64 (IntKind.u64.wrap (-1)) 7 = 7 := by decide +kernel
  go_enter Try.func49, Try.ntmps49
  have x3 := rotr_or a h0 h1
  go_wp2
  go_ret
  exact ⟨rfl, rfl⟩

set_option maxHeartbeats 400000 in
theorem of_any (a : Int) (h0 : 0 ≤ a) (h1 : a ≤ 255) (w : World) :
    Calls Try.prog 35 #[.int .u8 a] w fun e w' => e = .returned (.agg #[.bool (sgn a), .bool (a / 64 % 2 == 1), .bool (a / 16 % 2 == 1), .bool (a / 4 % 2 == 1), .bool (a % 2 == 1)]) ∧ Below w.heap.size w w' := by
  have s1 := sgn_and a h0 h1
  have s2 := b64_and a h0 h1
  have s3 := b16_and a h0 h1
  have s4 := b4_and a h0 h1
  have s5 := b1_and a h0 h1
  go_enter Try.func35, Try.ntmps35
  go_wp2
  refine bodyPost_ret ?_ rfl ⟨rfl, ?_⟩
  · simp [results, Try.results35, go_sem]
  · exact balloc (Below.refl _ _) _

set_option maxHeartbeats 400000 in
theorem psw1_any (is : Bool) (m : Int) (g : Nat) (v : Int) (w : World) (hc : w.cell? ⟨g, 0, none⟩ = some (.int .u8 v)) (hf : w.frozen? ⟨g, 0, none⟩ = false) :
    Calls Try.prog 47 #[.bool is, .int .u8 m, .pointer (some ⟨g, 0, none⟩)] w fun e w' => e = .returned (.tuple #[]) ∧ w.setCell ⟨g, 0, none⟩ (.int .u8 (orIf is v m)) = w' := by
  cases is
  · go_enter Try.func47, Try.ntmps47
    go_wp2
    go_end0
    exact ⟨rfl, setCell_self hc⟩
  · go_enter Try.func47, Try.ntmps47
    go_wp2
    go_end0
    exact ⟨rfl, rfl⟩

set_option maxHeartbeats 400000 in
theorem psw_any (s z x p c : Bool) (w : World) :
    Calls Try.prog 33 #[.agg #[.bool s, .bool z, .bool x, .bool p, .bool c]] w fun e w' => e = .returned (.int .u8 (pswV s z x p c)) ∧ Below w.heap.size w w' := by
  have hmf : ∀ (fn : Fn) (first cap : Array Value) (w : World), (Instr.makeFunc fn first cap).run Try.prog w = .ok (.func fn first cap) w := fun _ _ _ _ => rfl
  go_enter Try.func33, Try.ntmps33
  go_wp2_with fail
  refine (psw1_any s 128 _ 2 _ (by go_simp) (by go_simp)).mono ?_; rintro e w' ⟨rfl, rfl⟩
  go_wp2_with fail
  refine (psw1_any z 64 _ (orIf s 2 128) _ (by go_simp) (by go_simp)).mono ?_; rintro e w' ⟨rfl, rfl⟩
  go_wp2_with fail
  refine (psw1_any x 16 _ (orIf z (orIf s 2 128) 64) _ (by go_simp) (by go_simp)).mono ?_; rintro e w' ⟨rfl, rfl⟩
  go_wp2_with fail
  refine (psw1_any p 4 _ (orIf x (orIf z (orIf s 2 128) 64) 16) _ (by go_simp) (by go_simp)).mono ?_; rintro e w' ⟨rfl, rfl⟩
  go_wp2_with fail
  refine (psw1_any c 1 _ (orIf p (orIf x (orIf z (orIf s 2 128) 64) 16) 4) _ (by go_simp) (by go_simp)).mono ?_; rintro e w' ⟨rfl, rfl⟩
  go_wp2
  go_ret
  exact ⟨congrArg (fun x => Ending.returned (Value.int IntKind.u8 x)) (orIf_psw s z x p c), balloc (balloc (Below.refl _ _) _) _⟩

set_option maxHeartbeats 400000 in
theorem turn_0 (a : Int) (c : Bool) (h0 : 0 ≤ a) (h1 : a ≤ 255) (w : World) :
    Calls Try.prog 39 #[.int .i64 0, .int .u8 a, .bool c] w fun e w' => e = .returned (.tuple #[.int .u8 ((a * 2 + a / 128) % 256), .bool (sgn a)]) ∧ w = w' := by
  have hs := sgn_and a h0 h1
  go_enter Try.func39, Try.ntmps39
  go_wp2_with fail
  refine (rotl_any a h0 h1 _).mono ?_; rintro e w' ⟨rfl, rfl⟩
  go_wp2
  go_ret2
  exact ⟨rfl, rfl⟩

set_option maxHeartbeats 400000 in
theorem turn_1 (a : Int) (c : Bool) (h0 : 0 ≤ a) (h1 : a ≤ 255) (w : World) :
    Calls Try.prog 39 #[.int .i64 1, .int .u8 a, .bool c] w fun e w' => e = .returned (.tuple #[.int .u8 (a / 2 + a % 2 * 128), .bool (a % 2 == 1)]) ∧ w = w' := by
  have hs := b1_and a h0 h1
  go_enter Try.func39, Try.ntmps39
  go_wp2_with fail
  refine (rotr_any a h0 h1 _).mono ?_; rintro e w' ⟨rfl, rfl⟩
  go_wp2
  go_ret2
  exact ⟨rfl, rfl⟩

set_option maxHeartbeats 400000 in
theorem turn_2 (a : Int) (c : Bool) (h0 : 0 ≤ a) (h1 : a ≤ 255) (w : World) :
    Calls Try.prog 39 #[.int .i64 2, .int .u8 a, .bool c] w fun e w' => e = .returned (.tuple #[.int .u8 ((a * 2 + cb c) % 256), .bool (sgn a)]) ∧ w = w' := by
  have hs := sgn_and a h0 h1
  have hd0 := cb_lo c
  have hd1 := cb_hi c
  have hx := shl_or a c h0 h1
  go_enter Try.func39, Try.ntmps39
  go_wp2_with fail
  refine (one_any _ _).mono ?_; rintro e w' ⟨rfl, rfl⟩
  go_wp2
  go_ret2
  exact ⟨rfl, rfl⟩

set_option maxHeartbeats 400000 in
theorem turn_3 (a : Int) (c : Bool) (h0 : 0 ≤ a) (h1 : a ≤ 255) (w : World) :
    Calls Try.prog 39 #[.int .i64 3, .int .u8 a, .bool c] w fun e w' => e = .returned (.tuple #[.int .u8 (a / 2 + 128 * cb c), .bool (a % 2 == 1)]) ∧ w = w' := by
  have hs := b1_and a h0 h1
  have hd0 := cb_lo c
  have hd1 := cb_hi c
  have hx := shr_or a c h0 h1
  go_enter Try.func39, Try.ntmps39
  go_wp2_with fail
  refine (one_any _ _).mono ?_; rintro e w' ⟨rfl, rfl⟩
  go_wp2
  go_ret2
  exact ⟨rfl, rfl⟩

set_option maxHeartbeats 400000 in
theorem turn_x (k a : Int) (c : Bool) (k0 : (k == 0) = false) (k1 : (k == 1) = false) (k2 : (k == 2) = false) (k3 : (k == 3) = false) (w : World) :
    Calls Try.prog 39 #[.int .i64 k, .int .u8 a, .bool c] w fun e w' => e = .returned (.tuple #[.int .u8 a, .bool c]) ∧ w = w' := by
  go_enter Try.func39, Try.ntmps39
  go_wp2
  go_ret2
  exact ⟨rfl, rfl⟩

end Go.Proofs.Ytpoaiojlaijoiaa
