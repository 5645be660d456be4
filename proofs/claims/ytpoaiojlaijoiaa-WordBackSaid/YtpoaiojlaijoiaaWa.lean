/- The walks of package word's functions: what each returns, and that nothing that was there has changed. -/
import Derived.Test.YtpoaiojlaijoiaaKt
namespace Go.Proofs.Ytpoaiojlaijoiaa
open Go.RowKit
set_option linter.unusedVariables false
set_option linter.unusedSimpArgs false

set_option maxHeartbeats 400000 in
theorem one_any (c : Bool) (w : World) : Calls Try.prog 43 #[.bool c] w fun e w' => e = .returned (.int .u64 (cb c)) ∧ w = w' := by
  cases c <;>
  · go_enter Try.func43, Try.ntmps43
    go_wp2
    go_ret
    exact ⟨rfl, rfl⟩

set_option maxRecDepth 100000 in
set_option maxHeartbeats 400000 in
theorem ones_any (n : Nat) (h : n < 256) (w : World) : Calls Try.prog 48 #[.int .u8 (n : Int)] w fun e w' => e = .returned (.int .i64 (popc n)) ∧ w = w' := by
  go_enter Try.func48, Try.ntmps48
  go_wp2
  go_ret
  refine ⟨?_, rfl⟩
  refine congrArg (fun x => Ending.returned (Value.int IntKind.i64 x)) ?_
  revert n
  decide +kernel

set_option maxHeartbeats 400000 in
theorem par_any (a : Int) (h0 : 0 ≤ a) (h1 : a ≤ 255) (w : World) :
    Calls Try.prog 37 #[.int .u8 a] w fun e w' => e = .returned (.bool (par a)) ∧ w = w' := by
  obtain ⟨n, rfl⟩ := Int.eq_ofNat_of_zero_le h0
  have hp := popc_and n
  go_enter Try.func37, Try.ntmps37
  go_wp2_with fail
  refine (ones_any n (by omega) _).mono ?_
  rintro e w' ⟨rfl, rfl⟩
  go_wp2
  go_ret
  exact ⟨rfl, rfl⟩

set_option maxHeartbeats 400000 in
theorem told_any (a : Int) (x c : Bool) (h0 : 0 ≤ a) (h1 : a ≤ 255) (w : World) :
   Calls Try.prog 44 #[.int .u8 a, .bool x, .bool c] w fun e w' => e = .returned (.tuple #[.int .u8 a, .agg #[.bool (sgn a), .bool (a == 0), .bool x, .bool (par a), .bool c]]) ∧ Below w.heap.size w w' := by
  have hs := sgn_and a h0 h1
  go_enter Try.func44, Try.ntmps44
  go_wp2_with fail
  refine (par_any _ h0 h1 _).mono ?_
  rintro e w' ⟨rfl, rfl⟩
  go_wp2
  exact bodyPost_ret (v := .tuple #[.int .u8 a, .agg #[.bool (sgn a), .bool (a == 0), .bool x, .bool (par a), .bool c]]) (by simp [results, Try.results44, go_sem]) rfl ⟨rfl, (Below.refl _ _).alloc (Nat.le_refl _) _⟩

set_option maxHeartbeats 400000 in
theorem sum3_any (g : Nat) (a b c : Int) (h0 : 0 ≤ a) (h1 : a ≤ 255) (h2 : 0 ≤ b) (h3 : b ≤ 255) (h4 : 0 ≤ c) (h5 : c ≤ 1) (w : World)
    (c0 : w.cell? ⟨g, 0, none⟩ = some (.int .u64 a)) (c1 : w.cell? ⟨g, 1, none⟩ = some (.int .u64 b)) (c2 : w.cell? ⟨g, 2, none⟩ = some (.int .u64 c)) :
    Calls Try.prog 42 #[.slice (some ⟨g, 0, none⟩) 3 3] w fun e w' => e = .returned (.int .u64 (a + b + c)) ∧ w = w' := by
  go_enter Try.func42, Try.ntmps42
  go_wp2
  refine wp_loop_rounds 4 ?_
  simp only [rounds_succ]
  go_wp2
  simp only [rounds_succ]
  go_wp2
  simp only [rounds_succ]
  go_wp2
  simp only [rounds_succ]
  go_wp2
  go_ret
  exact ⟨rfl, rfl⟩

set_option maxHeartbeats 400000 in
theorem sum2_any (g : Nat) (a b : Int) (h0 : 0 ≤ a) (h1 : a ≤ 65535) (h2 : 0 ≤ b) (h3 : b ≤ 65535) (w : World)
    (c0 : w.cell? ⟨g, 0, none⟩ = some (.int .u64 a)) (c1 : w.cell? ⟨g, 1, none⟩ = some (.int .u64 b)) :
    Calls Try.prog 42 #[.slice (some ⟨g, 0, none⟩) 2 2] w fun e w' => e = .returned (.int .u64 (a + b)) ∧ w = w' := by
  go_enter Try.func42, Try.ntmps42
  go_wp2
  refine wp_loop_rounds 3 ?_
  simp only [rounds_succ]
  go_wp2
  simp only [rounds_succ]
  go_wp2
  simp only [rounds_succ]
  go_wp2
  go_ret
  exact ⟨rfl, rfl⟩

set_option maxHeartbeats 400000 in
theorem add_any (a b : Int) (c : Bool) (h0 : 0 ≤ a) (h1 : a ≤ 255) (h2 : 0 ≤ b) (h3 : b ≤ 255) (w : World) :
    Calls Try.prog 13 #[.int .u8 a, .int .u8 b, .bool c] w fun e w' =>
      e = .returned (.tuple #[.int .u8 ((a + b + cb c) % 256), .agg #[.bool (sgn ((a + b + cb c) % 256)), .bool ((a + b + cb c) % 256 == 0), .bool (decide (15 < a % 16 + b % 16 + cb c)), .bool (par ((a + b + cb c) % 256)), .bool (decide (255 < a + b + cb c))]]) ∧ Below w.heap.size w w' := by
  have hd0 := cb_lo c
  have hd1 := cb_hi c
  go_enter Try.func13, Try.ntmps13
  go_wp2_with fail
  refine (one_any _ _).mono ?_; rintro e w' ⟨rfl, rfl⟩
  go_wp2_with fail
  refine (sum3_any _ a b (cb c) h0 h1 h2 h3 hd0 hd1 _ (by go_simp) (by go_simp) (by go_simp)).mono ?_; rintro e w' ⟨rfl, rfl⟩
  go_wp2_with fail
  refine (one_any _ _).mono ?_; rintro e w' ⟨rfl, rfl⟩
  go_wp2_with fail
  refine (sum3_any _ (a % 16) (b % 16) (cb c) (by omega) (by omega) (by omega) (by omega) hd0 hd1 _ (by go_simp) (by go_simp) (by go_simp)).mono ?_; rintro e w' ⟨rfl, rfl⟩
  go_wp2_with fail
  refine (told_any _ _ _ (by omega) (by omega) _).mono ?_; rintro e w1 ⟨rfl, hb⟩
  obtain ⟨hc, hf⟩ := bcell hb
  have k : w1.cell? ⟨w.heap.size, 0, none⟩ = some (.bool false) ∧ w1.cell? ⟨w.heap.size, 1, none⟩ = some (.bool false) ∧ w1.cell? ⟨w.heap.size, 2, none⟩ = some (.bool false) ∧ w1.cell? ⟨w.heap.size, 3, none⟩ = some (.bool false) ∧ w1.cell? ⟨w.heap.size, 4, none⟩ = some (.bool false) := by
    refine ⟨?_, ?_, ?_, ?_, ?_⟩ <;> (rw [hc _ _ (by simp; omega)]; go_simp)
  go_wp2
  exact bodyPost_ret (v := .tuple #[.int .u8 ((a + b + cb c) % 256), .agg #[.bool (sgn ((a + b + cb c) % 256)), .bool ((a + b + cb c) % 256 == 0), .bool (decide (15 < a % 16 + b % 16 + cb c)), .bool (par ((a + b + cb c) % 256)), .bool (decide (255 < a + b + cb c))]]) (by simp [results, Try.results13, go_sem, k]) rfl ⟨rfl, by
    repeat (first | with_reducible exact Below.refl _ _ | with_reducible apply bdrew | with_reducible apply balloc | (with_reducible apply bset; focus (first | (simp; done) | (simp; omega))) | with_reducible apply bthen hb)⟩

end Go.Proofs.Ytpoaiojlaijoiaa
