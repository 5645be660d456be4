/- The walks of package word's functions, the last: the adjustment to tens. -/
import Derived.Test.YtpoaiojlaijoiaaWc
namespace Go.Proofs.Ytpoaiojlaijoiaa
open Go.RowKit
set_option linter.unusedVariables false
set_option linter.unusedSimpArgs false

set_option maxHeartbeats 400000 in
theorem daa_a1 (a : Int) (s z x p c : Bool) (h0 : 0 ≤ a) (h1 : a ≤ 255) (g : 9 < a % 16) (n : 9 < (a + 6) / 16) (w : World) :
    Calls Try.prog 14 #[.int .u8 a, .agg #[.bool s, .bool z, .bool x, .bool p, .bool c]] w fun e w' =>
      e = .returned (.tuple #[.int .u8 ((a + 6 + 96) % 256), .agg #[.bool (sgn ((a + 6 + 96) % 256)), .bool (((a + 6 + 96) % 256) == 0), .bool true, .bool (par ((a + 6 + 96) % 256)), .bool true]]) ∧ Below w.heap.size w w' := by
  go_enter Try.func14, Try.ntmps14
  go_wp2_with fail
  refine (told_any _ _ _ (by omega) (by omega) _).mono ?_; rintro e w1 ⟨rfl, hb⟩
  obtain ⟨hc, hf⟩ := bcell hb
  have k : w1.cell? ⟨w.heap.size + 1, 0, none⟩ = some (.bool false) ∧ w1.cell? ⟨w.heap.size + 1, 1, none⟩ = some (.bool false) ∧ w1.cell? ⟨w.heap.size + 1, 2, none⟩ = some (.bool false) ∧ w1.cell? ⟨w.heap.size + 1, 3, none⟩ = some (.bool false) ∧ w1.cell? ⟨w.heap.size + 1, 4, none⟩ = some (.bool false) := by
    refine ⟨?_, ?_, ?_, ?_, ?_⟩ <;> (rw [hc _ _ (by simp)]; go_simp)
  go_wp2
  refine bodyPost_ret ?_ rfl ⟨rfl, ?_⟩
  · (simp [results, Try.results14, go_sem, k]) <;> omega
  · repeat (first | with_reducible exact Below.refl _ _ | with_reducible apply bdrew | with_reducible apply balloc | (with_reducible apply bset; focus (first | (simp; done) | (simp; omega))) | with_reducible apply bthen hb)

set_option maxHeartbeats 400000 in
theorem daa_a2 (a : Int) (s z x p c : Bool) (h0 : 0 ≤ a) (h1 : a ≤ 255) (g : 9 < a % 16) (n : (a + 6) / 16 ≤ 9) (w : World) :
    Calls Try.prog 14 #[.int .u8 a, .agg #[.bool s, .bool z, .bool x, .bool p, .bool true]] w fun e w' =>
      e = .returned (.tuple #[.int .u8 (a + 6 + 96), .agg #[.bool (sgn (a + 6 + 96)), .bool ((a + 6 + 96) == 0), .bool true, .bool (par (a + 6 + 96)), .bool true]]) ∧ Below w.heap.size w w' := by
  go_enter Try.func14, Try.ntmps14
  go_wp2_with fail
  refine (told_any _ _ _ (by omega) (by omega) _).mono ?_; rintro e w1 ⟨rfl, hb⟩
  obtain ⟨hc, hf⟩ := bcell hb
  have k : w1.cell? ⟨w.heap.size + 1, 0, none⟩ = some (.bool false) ∧ w1.cell? ⟨w.heap.size + 1, 1, none⟩ = some (.bool false) ∧ w1.cell? ⟨w.heap.size + 1, 2, none⟩ = some (.bool false) ∧ w1.cell? ⟨w.heap.size + 1, 3, none⟩ = some (.bool false) ∧ w1.cell? ⟨w.heap.size + 1, 4, none⟩ = some (.bool false) := by
    refine ⟨?_, ?_, ?_, ?_, ?_⟩ <;> (rw [hc _ _ (by simp)]; go_simp)
  go_wp2
  refine bodyPost_ret ?_ rfl ⟨rfl, ?_⟩
  · (simp [results, Try.results14, go_sem, k]) <;> omega
  · repeat (first | with_reducible exact Below.refl _ _ | with_reducible apply bdrew | with_reducible apply balloc | (with_reducible apply bset; focus (first | (simp; done) | (simp; omega))) | with_reducible apply bthen hb)

set_option maxHeartbeats 400000 in
theorem daa_a3 (a : Int) (s z x p c : Bool) (h0 : 0 ≤ a) (h1 : a ≤ 255) (g : 9 < a % 16) (n : (a + 6) / 16 ≤ 9) (w : World) :
    Calls Try.prog 14 #[.int .u8 a, .agg #[.bool s, .bool z, .bool x, .bool p, .bool false]] w fun e w' =>
      e = .returned (.tuple #[.int .u8 (a + 6), .agg #[.bool (sgn (a + 6)), .bool ((a + 6) == 0), .bool true, .bool (par (a + 6)), .bool false]]) ∧ Below w.heap.size w w' := by
  go_enter Try.func14, Try.ntmps14
  go_wp2_with fail
  refine (told_any _ _ _ (by omega) (by omega) _).mono ?_; rintro e w1 ⟨rfl, hb⟩
  obtain ⟨hc, hf⟩ := bcell hb
  have k : w1.cell? ⟨w.heap.size + 1, 0, none⟩ = some (.bool false) ∧ w1.cell? ⟨w.heap.size + 1, 1, none⟩ = some (.bool false) ∧ w1.cell? ⟨w.heap.size + 1, 2, none⟩ = some (.bool false) ∧ w1.cell? ⟨w.heap.size + 1, 3, none⟩ = some (.bool false) ∧ w1.cell? ⟨w.heap.size + 1, 4, none⟩ = some (.bool false) := by
    refine ⟨?_, ?_, ?_, ?_, ?_⟩ <;> (rw [hc _ _ (by simp)]; go_simp)
  go_wp2
  refine bodyPost_ret ?_ rfl ⟨rfl, ?_⟩
  · (simp [results, Try.results14, go_sem, k]) <;> omega
  · repeat (first | with_reducible exact Below.refl _ _ | with_reducible apply bdrew | with_reducible apply balloc | (with_reducible apply bset; focus (first | (simp; done) | (simp; omega))) | with_reducible apply bthen hb)

set_option maxHeartbeats 400000 in
theorem daa_b1 (a : Int) (s z x p c : Bool) (h0 : 0 ≤ a) (h1 : a ≤ 255) (g : a % 16 ≤ 9) (n : 9 < (a + 6) / 16) (w : World) :
    Calls Try.prog 14 #[.int .u8 a, .agg #[.bool s, .bool z, .bool true, .bool p, .bool c]] w fun e w' =>
      e = .returned (.tuple #[.int .u8 ((a + 6 + 96) % 256), .agg #[.bool (sgn ((a + 6 + 96) % 256)), .bool (((a + 6 + 96) % 256) == 0), .bool false, .bool (par ((a + 6 + 96) % 256)), .bool true]]) ∧ Below w.heap.size w w' := by
  go_enter Try.func14, Try.ntmps14
  go_wp2_with fail
  refine (told_any _ _ _ (by omega) (by omega) _).mono ?_; rintro e w1 ⟨rfl, hb⟩
  obtain ⟨hc, hf⟩ := bcell hb
  have k : w1.cell? ⟨w.heap.size + 1, 0, none⟩ = some (.bool false) ∧ w1.cell? ⟨w.heap.size + 1, 1, none⟩ = some (.bool false) ∧ w1.cell? ⟨w.heap.size + 1, 2, none⟩ = some (.bool false) ∧ w1.cell? ⟨w.heap.size + 1, 3, none⟩ = some (.bool false) ∧ w1.cell? ⟨w.heap.size + 1, 4, none⟩ = some (.bool false) := by
    refine ⟨?_, ?_, ?_, ?_, ?_⟩ <;> (rw [hc _ _ (by simp)]; go_simp)
  go_wp2
  refine bodyPost_ret ?_ rfl ⟨rfl, ?_⟩
  · (simp [results, Try.results14, go_sem, k]) <;> omega
  · repeat (first | with_reducible exact Below.refl _ _ | with_reducible apply bdrew | with_reducible apply balloc | (with_reducible apply bset; focus (first | (simp; done) | (simp; omega))) | with_reducible apply bthen hb)

set_option maxHeartbeats 400000 in
theorem daa_b2 (a : Int) (s z x p c : Bool) (h0 : 0 ≤ a) (h1 : a ≤ 255) (g : a % 16 ≤ 9) (n : (a + 6) / 16 ≤ 9) (w : World) :
    Calls Try.prog 14 #[.int .u8 a, .agg #[.bool s, .bool z, .bool true, .bool p, .bool true]] w fun e w' =>
      e = .returned (.tuple #[.int .u8 (a + 6 + 96), .agg #[.bool (sgn (a + 6 + 96)), .bool ((a + 6 + 96) == 0), .bool false, .bool (par (a + 6 + 96)), .bool true]]) ∧ Below w.heap.size w w' := by
  go_enter Try.func14, Try.ntmps14
  go_wp2_with fail
  refine (told_any _ _ _ (by omega) (by omega) _).mono ?_; rintro e w1 ⟨rfl, hb⟩
  obtain ⟨hc, hf⟩ := bcell hb
  have k : w1.cell? ⟨w.heap.size + 1, 0, none⟩ = some (.bool false) ∧ w1.cell? ⟨w.heap.size + 1, 1, none⟩ = some (.bool false) ∧ w1.cell? ⟨w.heap.size + 1, 2, none⟩ = some (.bool false) ∧ w1.cell? ⟨w.heap.size + 1, 3, none⟩ = some (.bool false) ∧ w1.cell? ⟨w.heap.size + 1, 4, none⟩ = some (.bool false) := by
    refine ⟨?_, ?_, ?_, ?_, ?_⟩ <;> (rw [hc _ _ (by simp)]; go_simp)
  go_wp2
  refine bodyPost_ret ?_ rfl ⟨rfl, ?_⟩
  · (simp [results, Try.results14, go_sem, k]) <;> omega
  · repeat (first | with_reducible exact Below.refl _ _ | with_reducible apply bdrew | with_reducible apply balloc | (with_reducible apply bset; focus (first | (simp; done) | (simp; omega))) | with_reducible apply bthen hb)

set_option maxHeartbeats 400000 in
theorem daa_b3 (a : Int) (s z x p c : Bool) (h0 : 0 ≤ a) (h1 : a ≤ 255) (g : a % 16 ≤ 9) (n : (a + 6) / 16 ≤ 9) (w : World) :
    Calls Try.prog 14 #[.int .u8 a, .agg #[.bool s, .bool z, .bool true, .bool p, .bool false]] w fun e w' =>
      e = .returned (.tuple #[.int .u8 (a + 6), .agg #[.bool (sgn (a + 6)), .bool ((a + 6) == 0), .bool false, .bool (par (a + 6)), .bool false]]) ∧ Below w.heap.size w w' := by
  go_enter Try.func14, Try.ntmps14
  go_wp2_with fail
  refine (told_any _ _ _ (by omega) (by omega) _).mono ?_; rintro e w1 ⟨rfl, hb⟩
  obtain ⟨hc, hf⟩ := bcell hb
  have k : w1.cell? ⟨w.heap.size + 1, 0, none⟩ = some (.bool false) ∧ w1.cell? ⟨w.heap.size + 1, 1, none⟩ = some (.bool false) ∧ w1.cell? ⟨w.heap.size + 1, 2, none⟩ = some (.bool false) ∧ w1.cell? ⟨w.heap.size + 1, 3, none⟩ = some (.bool false) ∧ w1.cell? ⟨w.heap.size + 1, 4, none⟩ = some (.bool false) := by
    refine ⟨?_, ?_, ?_, ?_, ?_⟩ <;> (rw [hc _ _ (by simp)]; go_simp)
  go_wp2
  refine bodyPost_ret ?_ rfl ⟨rfl, ?_⟩
  · (simp [results, Try.results14, go_sem, k]) <;> omega
  · repeat (first | with_reducible exact Below.refl _ _ | with_reducible apply bdrew | with_reducible apply balloc | (with_reducible apply bset; focus (first | (simp; done) | (simp; omega))) | with_reducible apply bthen hb)

set_option maxHeartbeats 400000 in
theorem daa_c1 (a : Int) (s z x p c : Bool) (h0 : 0 ≤ a) (h1 : a ≤ 255) (g : a % 16 ≤ 9) (n : 9 < a / 16) (w : World) :
    Calls Try.prog 14 #[.int .u8 a, .agg #[.bool s, .bool z, .bool false, .bool p, .bool c]] w fun e w' =>
      e = .returned (.tuple #[.int .u8 ((a + 96) % 256), .agg #[.bool (sgn ((a + 96) % 256)), .bool (((a + 96) % 256) == 0), .bool false, .bool (par ((a + 96) % 256)), .bool true]]) ∧ Below w.heap.size w w' := by
  go_enter Try.func14, Try.ntmps14
  go_wp2_with fail
  refine (told_any _ _ _ (by omega) (by omega) _).mono ?_; rintro e w1 ⟨rfl, hb⟩
  obtain ⟨hc, hf⟩ := bcell hb
  have k : w1.cell? ⟨w.heap.size + 1, 0, none⟩ = some (.bool false) ∧ w1.cell? ⟨w.heap.size + 1, 1, none⟩ = some (.bool false) ∧ w1.cell? ⟨w.heap.size + 1, 2, none⟩ = some (.bool false) ∧ w1.cell? ⟨w.heap.size + 1, 3, none⟩ = some (.bool false) ∧ w1.cell? ⟨w.heap.size + 1, 4, none⟩ = some (.bool false) := by
    refine ⟨?_, ?_, ?_, ?_, ?_⟩ <;> (rw [hc _ _ (by simp)]; go_simp)
  go_wp2
  refine bodyPost_ret ?_ rfl ⟨rfl, ?_⟩
  · (simp [results, Try.results14, go_sem, k]) <;> omega
  · repeat (first | with_reducible exact Below.refl _ _ | with_reducible apply bdrew | with_reducible apply balloc | (with_reducible apply bset; focus (first | (simp; done) | (simp; omega))) | with_reducible apply bthen hb)

set_option maxHeartbeats 400000 in
theorem daa_c2 (a : Int) (s z x p c : Bool) (h0 : 0 ≤ a) (h1 : a ≤ 255) (g : a % 16 ≤ 9) (n : a / 16 ≤ 9) (w : World) :
    Calls Try.prog 14 #[.int .u8 a, .agg #[.bool s, .bool z, .bool false, .bool p, .bool true]] w fun e w' =>
      e = .returned (.tuple #[.int .u8 (a + 96), .agg #[.bool (sgn (a + 96)), .bool ((a + 96) == 0), .bool false, .bool (par (a + 96)), .bool true]]) ∧ Below w.heap.size w w' := by
  go_enter Try.func14, Try.ntmps14
  go_wp2_with fail
  refine (told_any _ _ _ (by omega) (by omega) _).mono ?_; rintro e w1 ⟨rfl, hb⟩
  obtain ⟨hc, hf⟩ := bcell hb
  have k : w1.cell? ⟨w.heap.size + 1, 0, none⟩ = some (.bool false) ∧ w1.cell? ⟨w.heap.size + 1, 1, none⟩ = some (.bool false) ∧ w1.cell? ⟨w.heap.size + 1, 2, none⟩ = some (.bool false) ∧ w1.cell? ⟨w.heap.size + 1, 3, none⟩ = some (.bool false) ∧ w1.cell? ⟨w.heap.size + 1, 4, none⟩ = some (.bool false) := by
    refine ⟨?_, ?_, ?_, ?_, ?_⟩ <;> (rw [hc _ _ (by simp)]; go_simp)
  go_wp2
  refine bodyPost_ret ?_ rfl ⟨rfl, ?_⟩
  · (simp [results, Try.results14, go_sem, k]) <;> omega
  · repeat (first | with_reducible exact Below.refl _ _ | with_reducible apply bdrew | with_reducible apply balloc | (with_reducible apply bset; focus (first | (simp; done) | (simp; omega))) | with_reducible apply bthen hb)

set_option maxHeartbeats 400000 in
theorem daa_c3 (a : Int) (s z x p c : Bool) (h0 : 0 ≤ a) (h1 : a ≤ 255) (g : a % 16 ≤ 9) (n : a / 16 ≤ 9) (w : World) :
    Calls Try.prog 14 #[.int .u8 a, .agg #[.bool s, .bool z, .bool false, .bool p, .bool false]] w fun e w' =>
      e = .returned (.tuple #[.int .u8 a, .agg #[.bool (sgn a), .bool (a == 0), .bool false, .bool (par a), .bool false]]) ∧ Below w.heap.size w w' := by
  go_enter Try.func14, Try.ntmps14
  go_wp2_with fail
  refine (told_any _ _ _ (by omega) (by omega) _).mono ?_; rintro e w1 ⟨rfl, hb⟩
  obtain ⟨hc, hf⟩ := bcell hb
  have k : w1.cell? ⟨w.heap.size + 1, 0, none⟩ = some (.bool false) ∧ w1.cell? ⟨w.heap.size + 1, 1, none⟩ = some (.bool false) ∧ w1.cell? ⟨w.heap.size + 1, 2, none⟩ = some (.bool false) ∧ w1.cell? ⟨w.heap.size + 1, 3, none⟩ = some (.bool false) ∧ w1.cell? ⟨w.heap.size + 1, 4, none⟩ = some (.bool false) := by
    refine ⟨?_, ?_, ?_, ?_, ?_⟩ <;> (rw [hc _ _ (by simp)]; go_simp)
  go_wp2
  refine bodyPost_ret ?_ rfl ⟨rfl, ?_⟩
  · (simp [results, Try.results14, go_sem, k]) <;> omega
  · repeat (first | with_reducible exact Below.refl _ _ | with_reducible apply bdrew | with_reducible apply balloc | (with_reducible apply bset; focus (first | (simp; done) | (simp; omega))) | with_reducible apply bthen hb)

theorem daa_any (a : Int) (s z x p c : Bool) (h0 : 0 ≤ a) (h1 : a ≤ 255) (w : World) :
    Calls Try.prog 14 #[.int .u8 a, .agg #[.bool s, .bool z, .bool x, .bool p, .bool c]] w fun e w' =>
      e = .returned (.tuple #[.int .u8 (daaV a x c), .agg #[.bool (sgn (daaV a x c)), .bool (daaV a x c == 0), .bool (decide (9 < a % 16)), .bool (par (daaV a x c)), .bool (daaC a x c)]]) ∧ Below w.heap.size w w' := by
  by_cases g : 9 < a % 16
  · rw [decide_eq_true g]
    have eL : daaL a x = 6 := if_pos (Or.inl g)
    by_cases n : 9 < (a + 6) / 16
    · have e2 : daaC a x c = true := by simp [daaC, eL, n]
      have e1 : daaV a x c = (a + 6 + 96) % 256 := by simp [daaV, e2, eL, cb]
      rw [e1, e2]; exact daa_a1 a s z x p c h0 h1 g n w
    · cases c
      · have e2 : daaC a x false = false := by simp [daaC, eL]; omega
        have e1 : daaV a x false = a + 6 := by simp [daaV, e2, eL, cb]; omega
        rw [e1, e2]; exact daa_a3 a s z x p false h0 h1 g (by omega) w
      · have e2 : daaC a x true = true := by simp [daaC]
        have e1 : daaV a x true = a + 6 + 96 := by simp [daaV, e2, eL, cb]; omega
        rw [e1, e2]; exact daa_a2 a s z x p true h0 h1 g (by omega) w
  · rw [decide_eq_false g]
    cases x
    · have eL : daaL a false = 0 := if_neg (by simp; omega)
      by_cases n : 9 < a / 16
      · have e2 : daaC a false c = true := by simp [daaC, eL, n]
        have e1 : daaV a false c = (a + 96) % 256 := by simp [daaV, e2, eL, cb]
        rw [e1, e2]; exact daa_c1 a s z false p c h0 h1 (by omega) n w
      · cases c
        · have e2 : daaC a false false = false := by simp [daaC, eL]; omega
          have e1 : daaV a false false = a := by simp [daaV, e2, eL, cb]; omega
          rw [e1, e2]; exact daa_c3 a s z false p false h0 h1 (by omega) (by omega) w
        · have e2 : daaC a false true = true := by simp [daaC]
          have e1 : daaV a false true = a + 96 := by simp [daaV, e2, eL, cb]; omega
          rw [e1, e2]; exact daa_c2 a s z false p true h0 h1 (by omega) (by omega) w
    · have eL : daaL a true = 6 := if_pos (Or.inr rfl)
      by_cases n : 9 < (a + 6) / 16
      · have e2 : daaC a true c = true := by simp [daaC, eL, n]
        have e1 : daaV a true c = (a + 6 + 96) % 256 := by simp [daaV, e2, eL, cb]
        rw [e1, e2]; exact daa_b1 a s z true p c h0 h1 (by omega) n w
      · cases c
        · have e2 : daaC a true false = false := by simp [daaC, eL]; omega
          have e1 : daaV a true false = a + 6 := by simp [daaV, e2, eL, cb]; omega
          rw [e1, e2]; exact daa_b3 a s z true p false h0 h1 (by omega) (by omega) w
        · have e2 : daaC a true true = true := by simp [daaC]
          have e1 : daaV a true true = a + 6 + 96 := by simp [daaV, e2, eL, cb]; omega
          rw [e1, e2]; exact daa_b2 a s z true p true h0 h1 (by omega) (by omega) w

end Go.Proofs.Ytpoaiojlaijoiaa
