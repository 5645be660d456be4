/- The walks of the reference's functions of layer 1, more: steps, tens, turns, sums of words, the flags' byte. -/
import Derived.Test.YtpoaiojlaijoiaaRa
import Derived.BigRegion
namespace Go.Proofs.Ytpoaiojlaijoiaa
open Go.RowKit
set_option linter.unusedVariables false
set_option linter.unusedSimpArgs false

set_option maxHeartbeats 400000 in
theorem rinc_any (a : Int) (s z x p c : Bool) (h0 : 0 ≤ a) (h1 : a ≤ 255) (w : World) :
    Calls Try.prog 30 #[.int .u8 a, .agg #[.bool s, .bool z, .bool x, .bool p, .bool c]] w fun e w' =>
      e = .returned (.tuple #[.int .u8 ((a + 1 + cb false) % 256), .agg #[.bool (sgn ((a + 1 + cb false) % 256)), .bool (((a + 1 + cb false) % 256) == 0), .bool (decide (15 < a % 16 + 1 % 16 + cb false)), .bool (par ((a + 1 + cb false) % 256)), .bool c]]) ∧ Below w.heap.size w w' := by
  go_enter Try.func30, Try.ntmps30
  go_wp2_with fail
  refine (radd_any a 1 false h0 h1 (by omega) (by omega) _).mono ?_; rintro e w1 ⟨rfl, hb⟩
  obtain ⟨hc, hf⟩ := bcell hb
  have k : w1.cell? ⟨w.heap.size, 4, none⟩ = some (.bool c) ∧ w1.cell? ⟨w.heap.size + 1, 0, none⟩ = some (.bool false) ∧ w1.cell? ⟨w.heap.size + 1, 1, none⟩ = some (.bool false) ∧ w1.cell? ⟨w.heap.size + 1, 2, none⟩ = some (.bool false) ∧ w1.cell? ⟨w.heap.size + 1, 3, none⟩ = some (.bool false) ∧ w1.cell? ⟨w.heap.size + 1, 4, none⟩ = some (.bool false) := by
    refine ⟨?_, ?_, ?_, ?_, ?_, ?_⟩ <;> (rw [hc _ _ (by simp; try omega)]; go_simp)
  have hz : w.heap.size + 1 < w1.heap.size := by have := hb.size; simp at this; omega
  have hz0 : w.heap.size < w1.heap.size := by omega
  go_wp2
  go_region
  go_wp2
  refine bodyPost_ret ?_ rfl ⟨rfl, ?_⟩
  · simp [results, Try.results30, go_sem, k, hz, hz0]
  · repeat (first | with_reducible exact Below.refl _ _ | with_reducible apply bdrew | with_reducible apply balloc | (with_reducible apply bset; focus (first | (simp; done) | (simp; omega))) | with_reducible apply bthen hb)

set_option maxHeartbeats 400000 in
theorem rdec_any (a : Int) (s z x p c : Bool) (h0 : 0 ≤ a) (h1 : a ≤ 255) (w : World) :
    Calls Try.prog 31 #[.int .u8 a, .agg #[.bool s, .bool z, .bool x, .bool p, .bool c]] w fun e w' =>
      e = .returned (.tuple #[.int .u8 ((a + (255 - 1) + cb (!false)) % 256), .agg #[.bool (sgn ((a + (255 - 1) + cb (!false)) % 256)), .bool (((a + (255 - 1) + cb (!false)) % 256) == 0), .bool (decide (15 < a % 16 + (255 - 1) % 16 + cb (!false))), .bool (par ((a + (255 - 1) + cb (!false)) % 256)), .bool c]]) ∧ Below w.heap.size w w' := by
  go_enter Try.func31, Try.ntmps31
  go_wp2_with fail
  refine (rsub_any a 1 false h0 h1 (by omega) (by omega) _).mono ?_; rintro e w1 ⟨rfl, hb⟩
  obtain ⟨hc, hf⟩ := bcell hb
  have k : w1.cell? ⟨w.heap.size, 4, none⟩ = some (.bool c) ∧ w1.cell? ⟨w.heap.size + 1, 0, none⟩ = some (.bool false) ∧ w1.cell? ⟨w.heap.size + 1, 1, none⟩ = some (.bool false) ∧ w1.cell? ⟨w.heap.size + 1, 2, none⟩ = some (.bool false) ∧ w1.cell? ⟨w.heap.size + 1, 3, none⟩ = some (.bool false) ∧ w1.cell? ⟨w.heap.size + 1, 4, none⟩ = some (.bool false) := by
    refine ⟨?_, ?_, ?_, ?_, ?_, ?_⟩ <;> (rw [hc _ _ (by simp; try omega)]; go_simp)
  have hz : w.heap.size + 1 < w1.heap.size := by have := hb.size; simp at this; omega
  have hz0 : w.heap.size < w1.heap.size := by omega
  go_wp2
  go_region
  go_wp2
  refine bodyPost_ret ?_ rfl ⟨rfl, ?_⟩
  · simp [results, Try.results31, go_sem, k, hz, hz0]
  · repeat (first | with_reducible exact Below.refl _ _ | with_reducible apply bdrew | with_reducible apply balloc | (with_reducible apply bset; focus (first | (simp; done) | (simp; omega))) | with_reducible apply bthen hb)

set_option maxHeartbeats 400000 in
theorem rdaa_a1 (a : Int) (s z x p c : Bool) (h0 : 0 ≤ a) (h1 : a ≤ 255) (g : 9 < a % 16) (n : 9 < (a + 6) / 16) (w : World) :
    Calls Try.prog 32 #[.int .u8 a, .agg #[.bool s, .bool z, .bool x, .bool p, .bool c]] w fun e w' =>
      e = .returned (.tuple #[.int .u8 ((a + 6 + 96) % 256), .agg #[.bool (sgn ((a + 6 + 96) % 256)), .bool (((a + 6 + 96) % 256) == 0), .bool true, .bool (par ((a + 6 + 96) % 256)), .bool true]]) ∧ Below w.heap.size w w' := by
  go_enter Try.func32, Try.ntmps32
  go_wp2_with fail
  refine (rtold_any _ _ _ (by omega) (by omega) _).mono ?_; rintro e w1 ⟨rfl, hb⟩
  obtain ⟨hc, hf⟩ := bcell hb
  have k : w1.cell? ⟨w.heap.size + 1, 0, none⟩ = some (.bool false) ∧ w1.cell? ⟨w.heap.size + 1, 1, none⟩ = some (.bool false) ∧ w1.cell? ⟨w.heap.size + 1, 2, none⟩ = some (.bool false) ∧ w1.cell? ⟨w.heap.size + 1, 3, none⟩ = some (.bool false) ∧ w1.cell? ⟨w.heap.size + 1, 4, none⟩ = some (.bool false) := by
    refine ⟨?_, ?_, ?_, ?_, ?_⟩ <;> (rw [hc _ _ (by simp)]; go_simp)
  go_wp2
  refine bodyPost_ret ?_ rfl ⟨rfl, ?_⟩
  · (simp [results, Try.results32, go_sem, k]) <;> omega
  · repeat (first | with_reducible exact Below.refl _ _ | with_reducible apply bdrew | with_reducible apply balloc | (with_reducible apply bset; focus (first | (simp; done) | (simp; omega))) | with_reducible apply bthen hb)

set_option maxHeartbeats 400000 in
theorem rdaa_a2 (a : Int) (s z x p c : Bool) (h0 : 0 ≤ a) (h1 : a ≤ 255) (g : 9 < a % 16) (n : (a + 6) / 16 ≤ 9) (w : World) :
    Calls Try.prog 32 #[.int .u8 a, .agg #[.bool s, .bool z, .bool x, .bool p, .bool true]] w fun e w' =>
      e = .returned (.tuple #[.int .u8 ((a + 6 + 96) % 256), .agg #[.bool (sgn ((a + 6 + 96) % 256)), .bool (((a + 6 + 96) % 256) == 0), .bool true, .bool (par ((a + 6 + 96) % 256)), .bool true]]) ∧ Below w.heap.size w w' := by
  go_enter Try.func32, Try.ntmps32
  go_wp2_with fail
  refine (rtold_any _ _ _ (by omega) (by omega) _).mono ?_; rintro e w1 ⟨rfl, hb⟩
  obtain ⟨hc, hf⟩ := bcell hb
  have k : w1.cell? ⟨w.heap.size + 1, 0, none⟩ = some (.bool false) ∧ w1.cell? ⟨w.heap.size + 1, 1, none⟩ = some (.bool false) ∧ w1.cell? ⟨w.heap.size + 1, 2, none⟩ = some (.bool false) ∧ w1.cell? ⟨w.heap.size + 1, 3, none⟩ = some (.bool false) ∧ w1.cell? ⟨w.heap.size + 1, 4, none⟩ = some (.bool false) := by
    refine ⟨?_, ?_, ?_, ?_, ?_⟩ <;> (rw [hc _ _ (by simp)]; go_simp)
  go_wp2
  refine bodyPost_ret ?_ rfl ⟨rfl, ?_⟩
  · (simp [results, Try.results32, go_sem, k]) <;> omega
  · repeat (first | with_reducible exact Below.refl _ _ | with_reducible apply bdrew | with_reducible apply balloc | (with_reducible apply bset; focus (first | (simp; done) | (simp; omega))) | with_reducible apply bthen hb)

set_option maxHeartbeats 400000 in
theorem rdaa_a3 (a : Int) (s z x p c : Bool) (h0 : 0 ≤ a) (h1 : a ≤ 255) (g : 9 < a % 16) (n : (a + 6) / 16 ≤ 9) (w : World) :
    Calls Try.prog 32 #[.int .u8 a, .agg #[.bool s, .bool z, .bool x, .bool p, .bool false]] w fun e w' =>
      e = .returned (.tuple #[.int .u8 ((a + 6) % 256), .agg #[.bool (sgn ((a + 6) % 256)), .bool (((a + 6) % 256) == 0), .bool true, .bool (par ((a + 6) % 256)), .bool false]]) ∧ Below w.heap.size w w' := by
  go_enter Try.func32, Try.ntmps32
  go_wp2_with fail
  refine (rtold_any _ _ _ (by omega) (by omega) _).mono ?_; rintro e w1 ⟨rfl, hb⟩
  obtain ⟨hc, hf⟩ := bcell hb
  have k : w1.cell? ⟨w.heap.size + 1, 0, none⟩ = some (.bool false) ∧ w1.cell? ⟨w.heap.size + 1, 1, none⟩ = some (.bool false) ∧ w1.cell? ⟨w.heap.size + 1, 2, none⟩ = some (.bool false) ∧ w1.cell? ⟨w.heap.size + 1, 3, none⟩ = some (.bool false) ∧ w1.cell? ⟨w.heap.size + 1, 4, none⟩ = some (.bool false) := by
    refine ⟨?_, ?_, ?_, ?_, ?_⟩ <;> (rw [hc _ _ (by simp)]; go_simp)
  go_wp2
  refine bodyPost_ret ?_ rfl ⟨rfl, ?_⟩
  · (simp [results, Try.results32, go_sem, k]) <;> omega
  · repeat (first | with_reducible exact Below.refl _ _ | with_reducible apply bdrew | with_reducible apply balloc | (with_reducible apply bset; focus (first | (simp; done) | (simp; omega))) | with_reducible apply bthen hb)

set_option maxHeartbeats 400000 in
theorem rdaa_b1 (a : Int) (s z x p c : Bool) (h0 : 0 ≤ a) (h1 : a ≤ 255) (g : a % 16 ≤ 9) (n : 9 < (a + 6) / 16) (w : World) :
    Calls Try.prog 32 #[.int .u8 a, .agg #[.bool s, .bool z, .bool true, .bool p, .bool c]] w fun e w' =>
      e = .returned (.tuple #[.int .u8 ((a + 6 + 96) % 256), .agg #[.bool (sgn ((a + 6 + 96) % 256)), .bool (((a + 6 + 96) % 256) == 0), .bool false, .bool (par ((a + 6 + 96) % 256)), .bool true]]) ∧ Below w.heap.size w w' := by
  go_enter Try.func32, Try.ntmps32
  go_wp2_with fail
  refine (rtold_any _ _ _ (by omega) (by omega) _).mono ?_; rintro e w1 ⟨rfl, hb⟩
  obtain ⟨hc, hf⟩ := bcell hb
  have k : w1.cell? ⟨w.heap.size + 1, 0, none⟩ = some (.bool false) ∧ w1.cell? ⟨w.heap.size + 1, 1, none⟩ = some (.bool false) ∧ w1.cell? ⟨w.heap.size + 1, 2, none⟩ = some (.bool false) ∧ w1.cell? ⟨w.heap.size + 1, 3, none⟩ = some (.bool false) ∧ w1.cell? ⟨w.heap.size + 1, 4, none⟩ = some (.bool false) := by
    refine ⟨?_, ?_, ?_, ?_, ?_⟩ <;> (rw [hc _ _ (by simp)]; go_simp)
  go_wp2
  refine bodyPost_ret ?_ rfl ⟨rfl, ?_⟩
  · (simp [results, Try.results32, go_sem, k]) <;> omega
  · repeat (first | with_reducible exact Below.refl _ _ | with_reducible apply bdrew | with_reducible apply balloc | (with_reducible apply bset; focus (first | (simp; done) | (simp; omega))) | with_reducible apply bthen hb)

set_option maxHeartbeats 400000 in
theorem rdaa_b2 (a : Int) (s z x p c : Bool) (h0 : 0 ≤ a) (h1 : a ≤ 255) (g : a % 16 ≤ 9) (n : (a + 6) / 16 ≤ 9) (w : World) :
    Calls Try.prog 32 #[.int .u8 a, .agg #[.bool s, .bool z, .bool true, .bool p, .bool true]] w fun e w' =>
      e = .returned (.tuple #[.int .u8 ((a + 6 + 96) % 256), .agg #[.bool (sgn ((a + 6 + 96) % 256)), .bool (((a + 6 + 96) % 256) == 0), .bool false, .bool (par ((a + 6 + 96) % 256)), .bool true]]) ∧ Below w.heap.size w w' := by
  go_enter Try.func32, Try.ntmps32
  go_wp2_with fail
  refine (rtold_any _ _ _ (by omega) (by omega) _).mono ?_; rintro e w1 ⟨rfl, hb⟩
  obtain ⟨hc, hf⟩ := bcell hb
  have k : w1.cell? ⟨w.heap.size + 1, 0, none⟩ = some (.bool false) ∧ w1.cell? ⟨w.heap.size + 1, 1, none⟩ = some (.bool false) ∧ w1.cell? ⟨w.heap.size + 1, 2, none⟩ = some (.bool false) ∧ w1.cell? ⟨w.heap.size + 1, 3, none⟩ = some (.bool false) ∧ w1.cell? ⟨w.heap.size + 1, 4, none⟩ = some (.bool false) := by
    refine ⟨?_, ?_, ?_, ?_, ?_⟩ <;> (rw [hc _ _ (by simp)]; go_simp)
  go_wp2
  refine bodyPost_ret ?_ rfl ⟨rfl, ?_⟩
  · (simp [results, Try.results32, go_sem, k]) <;> omega
  · repeat (first | with_reducible exact Below.refl _ _ | with_reducible apply bdrew | with_reducible apply balloc | (with_reducible apply bset; focus (first | (simp; done) | (simp; omega))) | with_reducible apply bthen hb)

set_option maxHeartbeats 400000 in
theorem rdaa_b3 (a : Int) (s z x p c : Bool) (h0 : 0 ≤ a) (h1 : a ≤ 255) (g : a % 16 ≤ 9) (n : (a + 6) / 16 ≤ 9) (w : World) :
    Calls Try.prog 32 #[.int .u8 a, .agg #[.bool s, .bool z, .bool true, .bool p, .bool false]] w fun e w' =>
      e = .returned (.tuple #[.int .u8 ((a + 6) % 256), .agg #[.bool (sgn ((a + 6) % 256)), .bool (((a + 6) % 256) == 0), .bool false, .bool (par ((a + 6) % 256)), .bool false]]) ∧ Below w.heap.size w w' := by
  go_enter Try.func32, Try.ntmps32
  go_wp2_with fail
  refine (rtold_any _ _ _ (by omega) (by omega) _).mono ?_; rintro e w1 ⟨rfl, hb⟩
  obtain ⟨hc, hf⟩ := bcell hb
  have k : w1.cell? ⟨w.heap.size + 1, 0, none⟩ = some (.bool false) ∧ w1.cell? ⟨w.heap.size + 1, 1, none⟩ = some (.bool false) ∧ w1.cell? ⟨w.heap.size + 1, 2, none⟩ = some (.bool false) ∧ w1.cell? ⟨w.heap.size + 1, 3, none⟩ = some (.bool false) ∧ w1.cell? ⟨w.heap.size + 1, 4, none⟩ = some (.bool false) := by
    refine ⟨?_, ?_, ?_, ?_, ?_⟩ <;> (rw [hc _ _ (by simp)]; go_simp)
  go_wp2
  refine bodyPost_ret ?_ rfl ⟨rfl, ?_⟩
  · (simp [results, Try.results32, go_sem, k]) <;> omega
  · repeat (first | with_reducible exact Below.refl _ _ | with_reducible apply bdrew | with_reducible apply balloc | (with_reducible apply bset; focus (first | (simp; done) | (simp; omega))) | with_reducible apply bthen hb)

set_option maxHeartbeats 400000 in
theorem rdaa_c1 (a : Int) (s z x p c : Bool) (h0 : 0 ≤ a) (h1 : a ≤ 255) (g : a % 16 ≤ 9) (n : 9 < a / 16) (w : World) :
    Calls Try.prog 32 #[.int .u8 a, .agg #[.bool s, .bool z, .bool false, .bool p, .bool c]] w fun e w' =>
      e = .returned (.tuple #[.int .u8 ((a + 96) % 256), .agg #[.bool (sgn ((a + 96) % 256)), .bool (((a + 96) % 256) == 0), .bool false, .bool (par ((a + 96) % 256)), .bool true]]) ∧ Below w.heap.size w w' := by
  go_enter Try.func32, Try.ntmps32
  go_wp2_with fail
  refine (rtold_any _ _ _ (by omega) (by omega) _).mono ?_; rintro e w1 ⟨rfl, hb⟩
  obtain ⟨hc, hf⟩ := bcell hb
  have k : w1.cell? ⟨w.heap.size + 1, 0, none⟩ = some (.bool false) ∧ w1.cell? ⟨w.heap.size + 1, 1, none⟩ = some (.bool false) ∧ w1.cell? ⟨w.heap.size + 1, 2, none⟩ = some (.bool false) ∧ w1.cell? ⟨w.heap.size + 1, 3, none⟩ = some (.bool false) ∧ w1.cell? ⟨w.heap.size + 1, 4, none⟩ = some (.bool false) := by
    refine ⟨?_, ?_, ?_, ?_, ?_⟩ <;> (rw [hc _ _ (by simp)]; go_simp)
  go_wp2
  refine bodyPost_ret ?_ rfl ⟨rfl, ?_⟩
  · (simp [results, Try.results32, go_sem, k]) <;> omega
  · repeat (first | with_reducible exact Below.refl _ _ | with_reducible apply bdrew | with_reducible apply balloc | (with_reducible apply bset; focus (first | (simp; done) | (simp; omega))) | with_reducible apply bthen hb)

set_option maxHeartbeats 400000 in
theorem rdaa_c2 (a : Int) (s z x p c : Bool) (h0 : 0 ≤ a) (h1 : a ≤ 255) (g : a % 16 ≤ 9) (n : a / 16 ≤ 9) (w : World) :
    Calls Try.prog 32 #[.int .u8 a, .agg #[.bool s, .bool z, .bool false, .bool p, .bool true]] w fun e w' =>
      e = .returned (.tuple #[.int .u8 ((a + 96) % 256), .agg #[.bool (sgn ((a + 96) % 256)), .bool (((a + 96) % 256) == 0), .bool false, .bool (par ((a + 96) % 256)), .bool true]]) ∧ Below w.heap.size w w' := by
  go_enter Try.func32, Try.ntmps32
  go_wp2_with fail
  refine (rtold_any _ _ _ (by omega) (by omega) _).mono ?_; rintro e w1 ⟨rfl, hb⟩
  obtain ⟨hc, hf⟩ := bcell hb
  have k : w1.cell? ⟨w.heap.size + 1, 0, none⟩ = some (.bool false) ∧ w1.cell? ⟨w.heap.size + 1, 1, none⟩ = some (.bool false) ∧ w1.cell? ⟨w.heap.size + 1, 2, none⟩ = some (.bool false) ∧ w1.cell? ⟨w.heap.size + 1, 3, none⟩ = some (.bool false) ∧ w1.cell? ⟨w.heap.size + 1, 4, none⟩ = some (.bool false) := by
    refine ⟨?_, ?_, ?_, ?_, ?_⟩ <;> (rw [hc _ _ (by simp)]; go_simp)
  go_wp2
  refine bodyPost_ret ?_ rfl ⟨rfl, ?_⟩
  · (simp [results, Try.results32, go_sem, k]) <;> omega
  · repeat (first | with_reducible exact Below.refl _ _ | with_reducible apply bdrew | with_reducible apply balloc | (with_reducible apply bset; focus (first | (simp; done) | (simp; omega))) | with_reducible apply bthen hb)

set_option maxHeartbeats 400000 in
theorem rdaa_c3 (a : Int) (s z x p c : Bool) (h0 : 0 ≤ a) (h1 : a ≤ 255) (g : a % 16 ≤ 9) (n : a / 16 ≤ 9) (w : World) :
    Calls Try.prog 32 #[.int .u8 a, .agg #[.bool s, .bool z, .bool false, .bool p, .bool false]] w fun e w' =>
      e = .returned (.tuple #[.int .u8 (a % 256), .agg #[.bool (sgn (a % 256)), .bool ((a % 256) == 0), .bool false, .bool (par (a % 256)), .bool false]]) ∧ Below w.heap.size w w' := by
  go_enter Try.func32, Try.ntmps32
  go_wp2_with fail
  refine (rtold_any _ _ _ (by omega) (by omega) _).mono ?_; rintro e w1 ⟨rfl, hb⟩
  obtain ⟨hc, hf⟩ := bcell hb
  have k : w1.cell? ⟨w.heap.size + 1, 0, none⟩ = some (.bool false) ∧ w1.cell? ⟨w.heap.size + 1, 1, none⟩ = some (.bool false) ∧ w1.cell? ⟨w.heap.size + 1, 2, none⟩ = some (.bool false) ∧ w1.cell? ⟨w.heap.size + 1, 3, none⟩ = some (.bool false) ∧ w1.cell? ⟨w.heap.size + 1, 4, none⟩ = some (.bool false) := by
    refine ⟨?_, ?_, ?_, ?_, ?_⟩ <;> (rw [hc _ _ (by simp)]; go_simp)
  go_wp2
  refine bodyPost_ret ?_ rfl ⟨rfl, ?_⟩
  · (simp [results, Try.results32, go_sem, k]) <;> omega
  · repeat (first | with_reducible exact Below.refl _ _ | with_reducible apply bdrew | with_reducible apply balloc | (with_reducible apply bset; focus (first | (simp; done) | (simp; omega))) | with_reducible apply bthen hb)

theorem rdaa_any (a : Int) (s z x p c : Bool) (h0 : 0 ≤ a) (h1 : a ≤ 255) (w : World) :
    Calls Try.prog 32 #[.int .u8 a, .agg #[.bool s, .bool z, .bool x, .bool p, .bool c]] w fun e w' =>
      e = .returned (.tuple #[.int .u8 (daaV a x c), .agg #[.bool (sgn (daaV a x c)), .bool (daaV a x c == 0), .bool (decide (9 < a % 16)), .bool (par (daaV a x c)), .bool (daaC a x c)]]) ∧ Below w.heap.size w w' := by
  by_cases g : 9 < a % 16
  · rw [decide_eq_true g]
    have eL : daaL a x = 6 := if_pos (Or.inl g)
    by_cases n : 9 < (a + 6) / 16
    · have e2 : daaC a x c = true := by simp [daaC, eL, n]
      have e1 : daaV a x c = (a + 6 + 96) % 256 := by simp [daaV, e2, eL, cb]
      rw [e1, e2]; exact rdaa_a1 a s z x p c h0 h1 g n w
    · cases c
      · have e2 : daaC a x false = false := by simp [daaC, eL]; omega
        have e1 : daaV a x false = (a + 6) % 256 := by simp [daaV, e2, eL, cb]
        rw [e1, e2]; exact rdaa_a3 a s z x p false h0 h1 g (by omega) w
      · have e2 : daaC a x true = true := by simp [daaC]
        have e1 : daaV a x true = (a + 6 + 96) % 256 := by simp [daaV, e2, eL, cb]
        rw [e1, e2]; exact rdaa_a2 a s z x p true h0 h1 g (by omega) w
  · rw [decide_eq_false g]
    cases x
    · have eL : daaL a false = 0 := if_neg (by simp; omega)
      by_cases n : 9 < a / 16
      · have e2 : daaC a false c = true := by simp [daaC, eL, n]
        have e1 : daaV a false c = (a + 96) % 256 := by simp [daaV, e2, eL, cb]
        rw [e1, e2]; exact rdaa_c1 a s z false p c h0 h1 (by omega) n w
      · cases c
        · have e2 : daaC a false false = false := by simp [daaC, eL]; omega
          have e1 : daaV a false false = a % 256 := by simp [daaV, e2, eL, cb]
          rw [e1, e2]; exact rdaa_c3 a s z false p false h0 h1 (by omega) (by omega) w
        · have e2 : daaC a false true = true := by simp [daaC]
          have e1 : daaV a false true = (a + 96) % 256 := by simp [daaV, e2, eL, cb]
          rw [e1, e2]; exact rdaa_c2 a s z false p true h0 h1 (by omega) (by omega) w
    · have eL : daaL a true = 6 := if_pos (Or.inr rfl)
      by_cases n : 9 < (a + 6) / 16
      · have e2 : daaC a true c = true := by simp [daaC, eL, n]
        have e1 : daaV a true c = (a + 6 + 96) % 256 := by simp [daaV, e2, eL, cb]
        rw [e1, e2]; exact rdaa_b1 a s z true p c h0 h1 (by omega) n w
      · cases c
        · have e2 : daaC a true false = false := by simp [daaC, eL]; omega
          have e1 : daaV a true false = (a + 6) % 256 := by simp [daaV, e2, eL, cb]
          rw [e1, e2]; exact rdaa_b3 a s z true p false h0 h1 (by omega) (by omega) w
        · have e2 : daaC a true true = true := by simp [daaC]
          have e1 : daaV a true true = (a + 6 + 96) % 256 := by simp [daaV, e2, eL, cb]
          rw [e1, e2]; exact rdaa_b2 a s z true p true h0 h1 (by omega) (by omega) w

set_option maxHeartbeats 400000 in
theorem rof_any (a : Int) (h0 : 0 ≤ a) (h1 : a ≤ 255) (w : World) :
    Calls Try.prog 36 #[.int .u8 a] w fun e w' => e = .returned (.agg #[.bool (sgn a), .bool (a / 64 % 2 == 1), .bool (a / 16 % 2 == 1), .bool (a / 4 % 2 == 1), .bool (a % 2 == 1)]) ∧ Below w.heap.size w w' := by
  go_enter Try.func36, Try.ntmps36
  go_wp2
  refine bodyPost_ret ?_ rfl ⟨rfl, ?_⟩
  · simp [results, Try.results36, go_sem, sgn]
  · exact balloc (Below.refl _ _) _

set_option maxHeartbeats 400000 in
theorem radd16_any (a b : Int) (h0 : 0 ≤ a) (h1 : a ≤ 65535) (h2 : 0 ≤ b) (h3 : b ≤ 65535) (w : World) :
    Calls Try.prog 41 #[.int .u16 a, .int .u16 b] w fun e w' => e = .returned (.tuple #[.int .u16 ((a + b) % 65536), .bool (decide (65535 < a + b))]) ∧ Below w.heap.size w w' := by
  have ha := and65535 (a + b) (by omega) (by omega)
  go_enter Try.func41, Try.ntmps41
  go_wp2
  go_ret2
  exact ⟨rfl, Below.refl _ _⟩

set_option maxHeartbeats 400000 in
theorem rturn_0 (a : Int) (c : Bool) (h0 : 0 ≤ a) (h1 : a ≤ 255) (w : World) :
    Calls Try.prog 40 #[.int .i64 0, .int .u8 a, .bool c] w fun e w' => e = .returned (.tuple #[.int .u8 ((a * 2 + a / 128) % 256), .bool (sgn a)]) ∧ w = w' := by
  have ha := and255 (a * 2 + a / 128) (by omega) (by omega)
  go_enter Try.func40, Try.ntmps40
  go_wp2
  go_ret2
  exact ⟨rfl, rfl⟩

set_option maxHeartbeats 400000 in
theorem rturn_1 (a : Int) (c : Bool) (h0 : 0 ≤ a) (h1 : a ≤ 255) (w : World) :
    Calls Try.prog 40 #[.int .i64 1, .int .u8 a, .bool c] w fun e w' => e = .returned (.tuple #[.int .u8 (a / 2 + a % 2 * 128), .bool (a % 2 == 1)]) ∧ w = w' := by
  go_enter Try.func40, Try.ntmps40
  go_wp2
  go_ret2
  exact ⟨rfl, rfl⟩

set_option maxHeartbeats 400000 in
theorem rturn_2 (a : Int) (c : Bool) (h0 : 0 ≤ a) (h1 : a ≤ 255) (w : World) :
    Calls Try.prog 40 #[.int .i64 2, .int .u8 a, .bool c] w fun e w' => e = .returned (.tuple #[.int .u8 ((a * 2 + cb c) % 256), .bool (sgn a)]) ∧ w = w' := by
  have hd0 := cb_lo c
  have hd1 := cb_hi c
  have e1 : 1 * cb c = cb c := by omega
  have ha := and255 (a * 2 + cb c) (by omega) (by omega)
  go_enter Try.func40, Try.ntmps40
  go_wp2_with fail
  refine (rbit_any _ _ _).mono ?_; rintro e w' ⟨rfl, rfl⟩
  go_wp2
  go_ret2
  exact ⟨rfl, rfl⟩

set_option maxHeartbeats 400000 in
theorem rturn_3 (a : Int) (c : Bool) (h0 : 0 ≤ a) (h1 : a ≤ 255) (w : World) :
    Calls Try.prog 40 #[.int .i64 3, .int .u8 a, .bool c] w fun e w' => e = .returned (.tuple #[.int .u8 (a / 2 + 128 * cb c), .bool (a % 2 == 1)]) ∧ w = w' := by
  have hd0 := cb_lo c
  have hd1 := cb_hi c
  go_enter Try.func40, Try.ntmps40
  go_wp2_with fail
  refine (rbit_any _ _ _).mono ?_; rintro e w' ⟨rfl, rfl⟩
  go_wp2
  go_ret2
  exact ⟨rfl, rfl⟩

set_option maxHeartbeats 400000 in
theorem rturn_x (k a : Int) (c : Bool) (k0 : (k == 0) = false) (k1 : (k == 1) = false) (k2 : (k == 2) = false) (k3 : (k == 3) = false) (h0 : 0 ≤ a) (h1 : a ≤ 255) (w : World) :
    Calls Try.prog 40 #[.int .i64 k, .int .u8 a, .bool c] w fun e w' => e = .returned (.tuple #[.int .u8 a, .bool c]) ∧ w = w' := by
  go_enter Try.func40, Try.ntmps40
  go_wp2
  go_ret2
  exact ⟨rfl, rfl⟩

set_option maxHeartbeats 400000 in
theorem rpsw_any (s z x p c : Bool) (w : World) :
    Calls Try.prog 34 #[.agg #[.bool s, .bool z, .bool x, .bool p, .bool c]] w fun e w' => e = .returned (.int .u8 (pswV s z x p c)) ∧ Below w.heap.size w w' := by
  have b1 := cb_lo s
  have b2 := cb_hi s
  have b3 := cb_lo z
  have b4 := cb_hi z
  have b5 := cb_lo x
  have b6 := cb_hi x
  have b7 := cb_lo p
  have b8 := cb_hi p
  have b9 := cb_lo c
  have b0 := cb_hi c
  go_enter Try.func34, Try.ntmps34
  go_wp2_with fail
  go_quiet ((go_at_call 46; exact Calls.quiet_of_same (rbit_any' _ _ _)))
  go_wp2
  go_ret
  exact ⟨rfl, bdrewN (balloc (Below.refl _ _) _) _⟩

end Go.Proofs.Ytpoaiojlaijoiaa
