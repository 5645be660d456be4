/- The walks of package word's functions, more: differences, connections of bits, steps. -/
import Derived.Test.YtpoaiojlaijoiaaWa
import Derived.BigRegion
namespace Go.Proofs.Ytpoaiojlaijoiaa
open Go.RowKit
set_option linter.unusedVariables false
set_option linter.unusedSimpArgs false

set_option maxHeartbeats 400000 in
theorem and_any (a b : Int) (h0 : 0 ≤ a) (h1 : a ≤ 255) (h2 : 0 ≤ b) (h3 : b ≤ 255) (w : World) :
    Calls Try.prog 15 #[.int .u8 a, .int .u8 b] w fun e w' =>
      e = .returned (.tuple #[.int .u8 (bits .and .u8 a b), .agg #[.bool (sgn (bits .and .u8 a b)), .bool (bits .and .u8 a b == 0), .bool (bits .or .u8 a b / 8 % 2 == 1), .bool (par (bits .and .u8 a b)), .bool false]]) ∧ Below w.heap.size w w' := by
  have l0 := bits_lo_u8 .and a b
  have l1 := bits_hi_u8 .and a b
  have hb8 := b8_and (bits .or .u8 a b) (bits_lo_u8 .or a b) (bits_hi_u8 .or a b)
  go_enter Try.func15, Try.ntmps15
  go_wp2_with fail
  refine (told_any _ _ _ (by omega) (by omega) _).mono ?_; rintro e w1 ⟨rfl, hb⟩
  obtain ⟨hc, hf⟩ := bcell hb
  have k : w1.cell? ⟨w.heap.size, 0, none⟩ = some (.bool false) ∧ w1.cell? ⟨w.heap.size, 1, none⟩ = some (.bool false) ∧ w1.cell? ⟨w.heap.size, 2, none⟩ = some (.bool false) ∧ w1.cell? ⟨w.heap.size, 3, none⟩ = some (.bool false) ∧ w1.cell? ⟨w.heap.size, 4, none⟩ = some (.bool false) := by
    refine ⟨?_, ?_, ?_, ?_, ?_⟩ <;> (rw [hc _ _ (by simp)]; go_simp)
  go_wp2
  exact bodyPost_ret (v := .tuple #[.int .u8 (bits .and .u8 a b), .agg #[.bool (sgn (bits .and .u8 a b)), .bool (bits .and .u8 a b == 0), .bool (bits .or .u8 a b / 8 % 2 == 1), .bool (par (bits .and .u8 a b)), .bool false]]) (by simp [results, Try.results15, go_sem, k]) rfl ⟨rfl, by
    repeat (first | with_reducible exact Below.refl _ _ | with_reducible apply bdrew | with_reducible apply balloc | (with_reducible apply bset; focus (first | (simp; done) | (simp; omega))) | with_reducible apply bthen hb)⟩

set_option maxHeartbeats 400000 in
theorem sub_any (a b : Int) (c : Bool) (h0 : 0 ≤ a) (h1 : a ≤ 255) (h2 : 0 ≤ b) (h3 : b ≤ 255) (w : World) :
    Calls Try.prog 24 #[.int .u8 a, .int .u8 b, .bool c] w fun e w' =>
      e = .returned (.tuple #[.int .u8 ((a + (255 - b) + cb (!c)) % 256), .agg #[.bool (sgn ((a + (255 - b) + cb (!c)) % 256)), .bool ((a + (255 - b) + cb (!c)) % 256 == 0), .bool (decide (15 < a % 16 + (255 - b) % 16 + cb (!c))), .bool (par ((a + (255 - b) + cb (!c)) % 256)), .bool (!decide (255 < a + (255 - b) + cb (!c)))]]) ∧ Below w.heap.size w w' := by
  have hx := xor_max b h2 h3
  go_enter Try.func24, Try.ntmps24
  go_wp2_with fail
  refine (add_any a (255 - b) (!c) (by omega) (by omega) (by omega) (by omega) _).mono ?_; rintro e w1 ⟨rfl, hb⟩
  obtain ⟨hc, hf⟩ := bcell hb
  have k : w1.cell? ⟨w.heap.size, 0, none⟩ = some (.bool false) ∧ w1.cell? ⟨w.heap.size, 1, none⟩ = some (.bool false) ∧ w1.cell? ⟨w.heap.size, 2, none⟩ = some (.bool false) ∧ w1.cell? ⟨w.heap.size, 3, none⟩ = some (.bool false) ∧ w1.cell? ⟨w.heap.size, 4, none⟩ = some (.bool false) := by
    refine ⟨?_, ?_, ?_, ?_, ?_⟩ <;> (rw [hc _ _ (by simp)]; go_simp)
  have hz : w.heap.size < w1.heap.size := by have := hb.size; simp at this; omega
  go_wp2
  go_region
  go_wp2
  refine bodyPost_ret ?_ rfl ⟨rfl, ?_⟩
  · simp [results, Try.results24, go_sem, k, hz]
  · repeat (first | with_reducible exact Below.refl _ _ | with_reducible apply bdrew | with_reducible apply balloc | (with_reducible apply bset; focus (first | (simp; done) | (simp; omega))) | with_reducible apply bthen hb)

set_option maxHeartbeats 400000 in
theorem or_any (a b : Int) (w : World) :
    Calls Try.prog 16 #[.int .u8 a, .int .u8 b] w fun e w' =>
      e = .returned (.tuple #[.int .u8 (bits .or .u8 a b), .agg #[.bool (sgn (bits .or .u8 a b)), .bool ((bits .or .u8 a b) == 0), .bool false, .bool (par (bits .or .u8 a b)), .bool false]]) ∧ Below w.heap.size w w' := by
  have l0 := bits_lo_u8 .or a b
  have l1 := bits_hi_u8 .or a b
  go_enter Try.func16, Try.ntmps16
  go_wp2_with fail
  refine (told_any _ _ _ (by omega) (by omega) _).mono ?_; rintro e w1 ⟨rfl, hb⟩
  obtain ⟨hc, hf⟩ := bcell hb
  have k : w1.cell? ⟨w.heap.size, 0, none⟩ = some (.bool false) ∧ w1.cell? ⟨w.heap.size, 1, none⟩ = some (.bool false) ∧ w1.cell? ⟨w.heap.size, 2, none⟩ = some (.bool false) ∧ w1.cell? ⟨w.heap.size, 3, none⟩ = some (.bool false) ∧ w1.cell? ⟨w.heap.size, 4, none⟩ = some (.bool false) := by
    refine ⟨?_, ?_, ?_, ?_, ?_⟩ <;> (rw [hc _ _ (by simp)]; go_simp)
  go_wp2
  refine bodyPost_ret ?_ rfl ⟨rfl, ?_⟩
  · simp [results, Try.results16, go_sem, k]
  · repeat (first | with_reducible exact Below.refl _ _ | with_reducible apply bdrew | with_reducible apply balloc | (with_reducible apply bset; focus (first | (simp; done) | (simp; omega))) | with_reducible apply bthen hb)

set_option maxHeartbeats 400000 in
theorem xor_any (a b : Int) (w : World) :
    Calls Try.prog 17 #[.int .u8 a, .int .u8 b] w fun e w' =>
      e = .returned (.tuple #[.int .u8 (bits .xor .u8 a b), .agg #[.bool (sgn (bits .xor .u8 a b)), .bool ((bits .xor .u8 a b) == 0), .bool false, .bool (par (bits .xor .u8 a b)), .bool false]]) ∧ Below w.heap.size w w' := by
  have l0 := bits_lo_u8 .xor a b
  have l1 := bits_hi_u8 .xor a b
  go_enter Try.func17, Try.ntmps17
  go_wp2_with fail
  refine (told_any _ _ _ (by omega) (by omega) _).mono ?_; rintro e w1 ⟨rfl, hb⟩
  obtain ⟨hc, hf⟩ := bcell hb
  have k : w1.cell? ⟨w.heap.size, 0, none⟩ = some (.bool false) ∧ w1.cell? ⟨w.heap.size, 1, none⟩ = some (.bool false) ∧ w1.cell? ⟨w.heap.size, 2, none⟩ = some (.bool false) ∧ w1.cell? ⟨w.heap.size, 3, none⟩ = some (.bool false) ∧ w1.cell? ⟨w.heap.size, 4, none⟩ = some (.bool false) := by
    refine ⟨?_, ?_, ?_, ?_, ?_⟩ <;> (rw [hc _ _ (by simp)]; go_simp)
  go_wp2
  refine bodyPost_ret ?_ rfl ⟨rfl, ?_⟩
  · simp [results, Try.results17, go_sem, k]
  · repeat (first | with_reducible exact Below.refl _ _ | with_reducible apply bdrew | with_reducible apply balloc | (with_reducible apply bset; focus (first | (simp; done) | (simp; omega))) | with_reducible apply bthen hb)

set_option maxHeartbeats 400000 in
theorem inc_any (a : Int) (s z x p c : Bool) (h0 : 0 ≤ a) (h1 : a ≤ 255) (w : World) :
    Calls Try.prog 27 #[.int .u8 a, .agg #[.bool s, .bool z, .bool x, .bool p, .bool c]] w fun e w' =>
      e = .returned (.tuple #[.int .u8 ((a + 1 + cb false) % 256), .agg #[.bool (sgn ((a + 1 + cb false) % 256)), .bool (((a + 1 + cb false) % 256) == 0), .bool (decide (15 < a % 16 + 1 % 16 + cb false)), .bool (par ((a + 1 + cb false) % 256)), .bool c]]) ∧ Below w.heap.size w w' := by
  go_enter Try.func27, Try.ntmps27
  go_wp2_with fail
  refine (add_any a 1 false h0 h1 (by omega) (by omega) _).mono ?_; rintro e w1 ⟨rfl, hb⟩
  obtain ⟨hc, hf⟩ := bcell hb
  have k : w1.cell? ⟨w.heap.size, 4, none⟩ = some (.bool c) ∧ w1.cell? ⟨w.heap.size + 1, 0, none⟩ = some (.bool false) ∧ w1.cell? ⟨w.heap.size + 1, 1, none⟩ = some (.bool false) ∧ w1.cell? ⟨w.heap.size + 1, 2, none⟩ = some (.bool false) ∧ w1.cell? ⟨w.heap.size + 1, 3, none⟩ = some (.bool false) ∧ w1.cell? ⟨w.heap.size + 1, 4, none⟩ = some (.bool false) := by
    refine ⟨?_, ?_, ?_, ?_, ?_, ?_⟩ <;> (rw [hc _ _ (by simp; try omega)]; go_simp)
  have hz : w.heap.size + 1 < w1.heap.size := by have := hb.size; simp at this; omega
  have hz0 : w.heap.size < w1.heap.size := by omega
  go_wp2
  go_region
  go_wp2
  refine bodyPost_ret ?_ rfl ⟨rfl, ?_⟩
  · simp [results, Try.results27, go_sem, k, hz, hz0]
  · repeat (first | with_reducible exact Below.refl _ _ | with_reducible apply bdrew | with_reducible apply balloc | (with_reducible apply bset; focus (first | (simp; done) | (simp; omega))) | with_reducible apply bthen hb)

set_option maxHeartbeats 400000 in
theorem dec_any (a : Int) (s z x p c : Bool) (h0 : 0 ≤ a) (h1 : a ≤ 255) (w : World) :
    Calls Try.prog 29 #[.int .u8 a, .agg #[.bool s, .bool z, .bool x, .bool p, .bool c]] w fun e w' =>
      e = .returned (.tuple #[.int .u8 ((a + (255 - 1) + cb (!false)) % 256), .agg #[.bool (sgn ((a + (255 - 1) + cb (!false)) % 256)), .bool (((a + (255 - 1) + cb (!false)) % 256) == 0), .bool (decide (15 < a % 16 + (255 - 1) % 16 + cb (!false))), .bool (par ((a + (255 - 1) + cb (!false)) % 256)), .bool c]]) ∧ Below w.heap.size w w' := by
  go_enter Try.func29, Try.ntmps29
  go_wp2_with fail
  refine (sub_any a 1 false h0 h1 (by omega) (by omega) _).mono ?_; rintro e w1 ⟨rfl, hb⟩
  obtain ⟨hc, hf⟩ := bcell hb
  have k : w1.cell? ⟨w.heap.size, 4, none⟩ = some (.bool c) ∧ w1.cell? ⟨w.heap.size + 1, 0, none⟩ = some (.bool false) ∧ w1.cell? ⟨w.heap.size + 1, 1, none⟩ = some (.bool false) ∧ w1.cell? ⟨w.heap.size + 1, 2, none⟩ = some (.bool false) ∧ w1.cell? ⟨w.heap.size + 1, 3, none⟩ = some (.bool false) ∧ w1.cell? ⟨w.heap.size + 1, 4, none⟩ = some (.bool false) := by
    refine ⟨?_, ?_, ?_, ?_, ?_, ?_⟩ <;> (rw [hc _ _ (by simp; try omega)]; go_simp)
  have hz : w.heap.size + 1 < w1.heap.size := by have := hb.size; simp at this; omega
  have hz0 : w.heap.size < w1.heap.size := by omega
  go_wp2
  go_region
  go_wp2
  refine bodyPost_ret ?_ rfl ⟨rfl, ?_⟩
  · simp [results, Try.results29, go_sem, k, hz, hz0]
  · repeat (first | with_reducible exact Below.refl _ _ | with_reducible apply bdrew | with_reducible apply balloc | (with_reducible apply bset; focus (first | (simp; done) | (simp; omega))) | with_reducible apply bthen hb)

end Go.Proofs.Ytpoaiojlaijoiaa
