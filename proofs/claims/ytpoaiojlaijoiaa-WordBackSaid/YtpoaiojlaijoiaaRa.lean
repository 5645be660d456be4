/- The walks of the reference's functions of layer 1: what each returns, in the same words as package word's. -/
import Derived.Test.YtpoaiojlaijoiaaKt
import Derived.LoopTactic
namespace Go.Proofs.Ytpoaiojlaijoiaa
open Go.RowKit
set_option linter.unusedVariables false
set_option linter.unusedSimpArgs false

set_option maxHeartbeats 400000 in
theorem rbit_any (c : Bool) (n : Int) (w : World) : Calls Try.prog 46 #[.bool c, .int .i64 n] w fun e w' => e = .returned (.int .i64 (n * cb c)) ∧ w = w' := by
  cases c
  · go_enter Try.func46, Try.ntmps46
    go_wp2
    go_ret
    exact ⟨by simp [cb], rfl⟩
  · go_enter Try.func46, Try.ntmps46
    go_wp2
    go_ret
    exact ⟨by simp [cb], rfl⟩

theorem rbit_any' (c : Bool) (n : Int) (w : World) : Calls Try.prog 46 #[.bool c, .int .i64 n] w fun e w' => e = .returned (.int .i64 (n * cb c)) ∧ w' = w :=
  (rbit_any c n w).mono fun _ _ ⟨h1, h2⟩ => ⟨h1, h2.symm⟩

set_option maxHeartbeats 1000000 in
theorem rpar_any (a : Int) (h0 : 0 ≤ a) (h1 : a ≤ 255) (w : World) :
    Calls Try.prog 38 #[.int .u8 a] w fun e w' => e = .returned (.bool (par a)) ∧ w = w' := by
  go_enter Try.func38, Try.ntmps38
  go_wp2
  go_loop [3, 4] (fun ev i => ∃ k : Nat, k ≤ 8 ∧ i = .int .i64 k ∧ ev = .bool (parl k a)) (fun _ i => 8 - (intOf i).toNat)
  case atStart => exact ⟨0, by omega, rfl, rfl⟩
  case round =>
    obtain ⟨k, hk, rfl, rfl⟩ := hrel
    by_cases hlt : k < 8
    · have HT := Lib.hid (parl_succ k a)
      have HQ := Lib.hid (popl_test k a h0 h1)
      by_cases hq : a / 2 ^ k % 2 = 1
      · have hb : (bits BinOp.and IntKind.u8 (a / 2 ^ k) 1 == 1) = true := by rw [HQ.out]; simp [hq]
        have HE : Hid (parl (k + 1) a = !parl k a) := by have := HT.out; rw [if_pos hq] at this; exact this
        clear hq
        go_wp2
        go_round
        case rel => exact ⟨k + 1, by omega, by go_num, by rw [HE.out]⟩
        case measure => simp [intOf]; omega
      · have hb : (bits BinOp.and IntKind.u8 (a / 2 ^ k) 1 == 1) = false := by rw [HQ.out]; simpa using hq
        have HE : Hid (parl (k + 1) a = parl k a) := by have := HT.out; rw [if_neg hq] at this; exact this
        clear hq
        go_wp2
        go_round
        case rel => exact ⟨k + 1, by omega, by go_num, by rw [HE.out]⟩
        case measure => simp [intOf]; omega
    · go_wp2
      go_ret
      obtain rfl : k = 8 := by omega
      exact ⟨congrArg (fun x => Ending.returned (Value.bool x)) (parl_8 a), rfl⟩

set_option maxHeartbeats 400000 in
theorem rtold_any (n : Int) (x c : Bool) (h0 : 0 ≤ n) (h1 : n ≤ 4000) (w : World) :
   Calls Try.prog 45 #[.int .i64 n, .bool x, .bool c] w fun e w' => e = .returned (.tuple #[.int .u8 (n % 256), .agg #[.bool (sgn (n % 256)), .bool ((n % 256) == 0), .bool x, .bool (par (n % 256)), .bool c]]) ∧ Below w.heap.size w w' := by
  have ha := and255 n h0 (by omega)
  go_enter Try.func45, Try.ntmps45
  go_wp2_with fail
  refine (rpar_any _ (by omega) (by omega) _).mono ?_; rintro e w' ⟨rfl, rfl⟩
  go_wp2
  refine bodyPost_ret ?_ rfl ⟨rfl, ?_⟩
  · simp [results, Try.results45, go_sem, sgn]
  · exact balloc (Below.refl _ _) _

set_option maxHeartbeats 400000 in
theorem radd_any (a b : Int) (c : Bool) (h0 : 0 ≤ a) (h1 : a ≤ 255) (h2 : 0 ≤ b) (h3 : b ≤ 255) (w : World) :
    Calls Try.prog 23 #[.int .u8 a, .int .u8 b, .bool c] w fun e w' =>
      e = .returned (.tuple #[.int .u8 ((a + b + cb c) % 256), .agg #[.bool (sgn ((a + b + cb c) % 256)), .bool (((a + b + cb c) % 256) == 0), .bool (decide (15 < a % 16 + b % 16 + cb c)), .bool (par ((a + b + cb c) % 256)), .bool (decide (255 < a + b + cb c))]]) ∧ Below w.heap.size w w' := by
  have hd0 := cb_lo c
  have hd1 := cb_hi c
  have e1 : 1 * cb c = cb c := by omega
  go_enter Try.func23, Try.ntmps23
  go_wp2_with fail
  refine (rbit_any _ _ _).mono ?_; rintro e w' ⟨rfl, rfl⟩
  go_wp2_with fail
  refine (rbit_any _ _ _).mono ?_; rintro e w' ⟨rfl, rfl⟩
  go_wp2_with fail
  refine (rtold_any _ _ _ (by omega) (by omega) _).mono ?_; rintro e w1 ⟨rfl, hb⟩
  obtain ⟨hc, hf⟩ := bcell hb
  have k : w1.cell? ⟨w.heap.size, 0, none⟩ = some (.bool false) ∧ w1.cell? ⟨w.heap.size, 1, none⟩ = some (.bool false) ∧ w1.cell? ⟨w.heap.size, 2, none⟩ = some (.bool false) ∧ w1.cell? ⟨w.heap.size, 3, none⟩ = some (.bool false) ∧ w1.cell? ⟨w.heap.size, 4, none⟩ = some (.bool false) := by
    refine ⟨?_, ?_, ?_, ?_, ?_⟩ <;> (rw [hc _ _ (by simp)]; go_simp)
  go_wp2
  refine bodyPost_ret ?_ rfl ⟨rfl, ?_⟩
  · (simp [results, Try.results23, go_sem, k]) <;> omega
  · repeat (first | with_reducible exact Below.refl _ _ | with_reducible apply bdrew | with_reducible apply balloc | (with_reducible apply bset; focus (first | (simp; done) | (simp; omega))) | with_reducible apply bthen hb)

set_option maxHeartbeats 400000 in
theorem rsub_any0 (a b : Int) (c : Bool) (h0 : 0 ≤ a) (h1 : a ≤ 255) (h2 : 0 ≤ b) (h3 : b ≤ 255) (w : World) :
    Calls Try.prog 25 #[.int .u8 a, .int .u8 b, .bool c] w fun e w' =>
      e = .returned (.tuple #[.int .u8 ((a - b - cb c + 256) % 256), .agg #[.bool (sgn ((a - b - cb c + 256) % 256)), .bool (((a - b - cb c + 256) % 256) == 0), .bool (decide (15 < a % 16 + 15 - b % 16 + cb (!c))), .bool (par ((a - b - cb c + 256) % 256)), .bool (decide (a - b - cb c < 0))]]) ∧ Below w.heap.size w w' := by
  have hd0 := cb_lo c
  have hd1 := cb_hi c
  have hn0 := cb_lo (!c)
  have hn1 := cb_hi (!c)
  have e1 : 1 * cb c = cb c := by omega
  have e2 : 1 * cb (!c) = cb (!c) := by omega
  go_enter Try.func25, Try.ntmps25
  go_wp2_with fail
  refine (rbit_any _ _ _).mono ?_; rintro e w' ⟨rfl, rfl⟩
  go_wp2_with fail
  refine (rbit_any _ _ _).mono ?_; rintro e w' ⟨rfl, rfl⟩
  go_wp2_with fail
  refine (rtold_any _ _ _ (by omega) (by omega) _).mono ?_; rintro e w1 ⟨rfl, hb⟩
  obtain ⟨hc, hf⟩ := bcell hb
  have k : w1.cell? ⟨w.heap.size, 0, none⟩ = some (.bool false) ∧ w1.cell? ⟨w.heap.size, 1, none⟩ = some (.bool false) ∧ w1.cell? ⟨w.heap.size, 2, none⟩ = some (.bool false) ∧ w1.cell? ⟨w.heap.size, 3, none⟩ = some (.bool false) ∧ w1.cell? ⟨w.heap.size, 4, none⟩ = some (.bool false) := by
    refine ⟨?_, ?_, ?_, ?_, ?_⟩ <;> (rw [hc _ _ (by simp)]; go_simp)
  go_wp2
  refine bodyPost_ret ?_ rfl ⟨rfl, ?_⟩
  · (simp [results, Try.results25, go_sem, k]) <;> omega
  · repeat (first | with_reducible exact Below.refl _ _ | with_reducible apply bdrew | with_reducible apply balloc | (with_reducible apply bset; focus (first | (simp; done) | (simp; omega))) | with_reducible apply bthen hb)

theorem rsub_any (a b : Int) (c : Bool) (h0 : 0 ≤ a) (h1 : a ≤ 255) (h2 : 0 ≤ b) (h3 : b ≤ 255) (w : World) :
    Calls Try.prog 25 #[.int .u8 a, .int .u8 b, .bool c] w fun e w' =>
      e = .returned (.tuple #[.int .u8 ((a + (255 - b) + cb (!c)) % 256), .agg #[.bool (sgn ((a + (255 - b) + cb (!c)) % 256)), .bool (((a + (255 - b) + cb (!c)) % 256) == 0), .bool (decide (15 < a % 16 + (255 - b) % 16 + cb (!c))), .bool (par ((a + (255 - b) + cb (!c)) % 256)), .bool (!decide (255 < a + (255 - b) + cb (!c)))]]) ∧ Below w.heap.size w w' := by
  have g := rsub_any0 a b c h0 h1 h2 h3 w
  have hn := cb_not c
  have hd0 := cb_lo c
  have hd1 := cb_hi c
  have e1 : (a - b - cb c + 256) % 256 = (a + (255 - b) + cb (!c)) % 256 := by rw [hn]; congr 1; omega
  have e2 : decide (15 < a % 16 + 15 - b % 16 + cb (!c)) = decide (15 < a % 16 + (255 - b) % 16 + cb (!c)) := by congr 1; apply propext; omega
  have e3 : decide (a - b - cb c < 0) = !decide (255 < a + (255 - b) + cb (!c)) := by
    rw [hn, ← decide_not]; congr 1; apply propext; omega
  rw [e1, e2, e3] at g
  exact g

set_option maxHeartbeats 400000 in
theorem rand_any (a b : Int) (h0 : 0 ≤ a) (h1 : a ≤ 255) (h2 : 0 ≤ b) (h3 : b ≤ 255) (w : World) :
    Calls Try.prog 18 #[.int .u8 a, .int .u8 b] w fun e w' =>
      e = .returned (.tuple #[.int .u8 (bits .and .u8 a b), .agg #[.bool (sgn (bits .and .u8 a b)), .bool ((bits .and .u8 a b) == 0), .bool (bits .or .u8 a b / 8 % 2 == 1), .bool (par (bits .and .u8 a b)), .bool false]]) ∧ Below w.heap.size w w' := by
  have l0 := bits_lo_u8 .and a b
  have l1 := bits_hi_u8 .and a b
  have lo0 := bits_lo_u8 .or a b
  have lo1 := bits_hi_u8 .or a b
  have em : bits .and .u8 a b % 256 = bits .and .u8 a b := by omega
  go_enter Try.func18, Try.ntmps18
  go_wp2_with fail
  refine (rtold_any _ _ _ (by omega) (by omega) _).mono ?_; rintro e w1 ⟨rfl, hb⟩
  obtain ⟨hc, hf⟩ := bcell hb
  have k : w1.cell? ⟨w.heap.size, 0, none⟩ = some (.bool false) ∧ w1.cell? ⟨w.heap.size, 1, none⟩ = some (.bool false) ∧ w1.cell? ⟨w.heap.size, 2, none⟩ = some (.bool false) ∧ w1.cell? ⟨w.heap.size, 3, none⟩ = some (.bool false) ∧ w1.cell? ⟨w.heap.size, 4, none⟩ = some (.bool false) := by
    refine ⟨?_, ?_, ?_, ?_, ?_⟩ <;> (rw [hc _ _ (by simp)]; go_simp)
  go_wp2
  refine bodyPost_ret ?_ rfl ⟨rfl, ?_⟩
  · (simp [results, Try.results18, go_sem, k]) <;> omega
  · repeat (first | with_reducible exact Below.refl _ _ | with_reducible apply bdrew | with_reducible apply balloc | (with_reducible apply bset; focus (first | (simp; done) | (simp; omega))) | with_reducible apply bthen hb)

set_option maxHeartbeats 400000 in
theorem ror_any (a b : Int) (h0 : 0 ≤ a) (h1 : a ≤ 255) (h2 : 0 ≤ b) (h3 : b ≤ 255) (w : World) :
    Calls Try.prog 19 #[.int .u8 a, .int .u8 b] w fun e w' =>
      e = .returned (.tuple #[.int .u8 (bits .or .u8 a b), .agg #[.bool (sgn (bits .or .u8 a b)), .bool ((bits .or .u8 a b) == 0), .bool false, .bool (par (bits .or .u8 a b)), .bool false]]) ∧ Below w.heap.size w w' := by
  have l0 := bits_lo_u8 .or a b
  have l1 := bits_hi_u8 .or a b
  have lo0 := bits_lo_u8 .or a b
  have lo1 := bits_hi_u8 .or a b
  have em : bits .or .u8 a b % 256 = bits .or .u8 a b := by omega
  go_enter Try.func19, Try.ntmps19
  go_wp2_with fail
  refine (rtold_any _ _ _ (by omega) (by omega) _).mono ?_; rintro e w1 ⟨rfl, hb⟩
  obtain ⟨hc, hf⟩ := bcell hb
  have k : w1.cell? ⟨w.heap.size, 0, none⟩ = some (.bool false) ∧ w1.cell? ⟨w.heap.size, 1, none⟩ = some (.bool false) ∧ w1.cell? ⟨w.heap.size, 2, none⟩ = some (.bool false) ∧ w1.cell? ⟨w.heap.size, 3, none⟩ = some (.bool false) ∧ w1.cell? ⟨w.heap.size, 4, none⟩ = some (.bool false) := by
    refine ⟨?_, ?_, ?_, ?_, ?_⟩ <;> (rw [hc _ _ (by simp)]; go_simp)
  go_wp2
  refine bodyPost_ret ?_ rfl ⟨rfl, ?_⟩
  · (simp [results, Try.results19, go_sem, k]) <;> omega
  · repeat (first | with_reducible exact Below.refl _ _ | with_reducible apply bdrew | with_reducible apply balloc | (with_reducible apply bset; focus (first | (simp; done) | (simp; omega))) | with_reducible apply bthen hb)

set_option maxHeartbeats 400000 in
theorem rxor_any (a b : Int) (h0 : 0 ≤ a) (h1 : a ≤ 255) (h2 : 0 ≤ b) (h3 : b ≤ 255) (w : World) :
    Calls Try.prog 20 #[.int .u8 a, .int .u8 b] w fun e w' =>
      e = .returned (.tuple #[.int .u8 (bits .xor .u8 a b), .agg #[.bool (sgn (bits .xor .u8 a b)), .bool ((bits .xor .u8 a b) == 0), .bool false, .bool (par (bits .xor .u8 a b)), .bool false]]) ∧ Below w.heap.size w w' := by
  have l0 := bits_lo_u8 .xor a b
  have l1 := bits_hi_u8 .xor a b
  have lo0 := bits_lo_u8 .or a b
  have lo1 := bits_hi_u8 .or a b
  have em : bits .xor .u8 a b % 256 = bits .xor .u8 a b := by omega
  go_enter Try.func20, Try.ntmps20
  go_wp2_with fail
  refine (rtold_any _ _ _ (by omega) (by omega) _).mono ?_; rintro e w1 ⟨rfl, hb⟩
  obtain ⟨hc, hf⟩ := bcell hb
  have k : w1.cell? ⟨w.heap.size, 0, none⟩ = some (.bool false) ∧ w1.cell? ⟨w.heap.size, 1, none⟩ = some (.bool false) ∧ w1.cell? ⟨w.heap.size, 2, none⟩ = some (.bool false) ∧ w1.cell? ⟨w.heap.size, 3, none⟩ = some (.bool false) ∧ w1.cell? ⟨w.heap.size, 4, none⟩ = some (.bool false) := by
    refine ⟨?_, ?_, ?_, ?_, ?_⟩ <;> (rw [hc _ _ (by simp)]; go_simp)
  go_wp2
  refine bodyPost_ret ?_ rfl ⟨rfl, ?_⟩
  · (simp [results, Try.results20, go_sem, k]) <;> omega
  · repeat (first | with_reducible exact Below.refl _ _ | with_reducible apply bdrew | with_reducible apply balloc | (with_reducible apply bset; focus (first | (simp; done) | (simp; omega))) | with_reducible apply bthen hb)

end Go.Proofs.Ytpoaiojlaijoiaa
