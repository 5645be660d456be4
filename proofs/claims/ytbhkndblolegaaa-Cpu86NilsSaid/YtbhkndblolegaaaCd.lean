/- The walk of cpu86's sum. -/
import Derived.Test.YtbhkndblolegaaaCc
namespace Go.Proofs.Ytbhkndblolegaaa
open Go.RowKit
set_option linter.unusedVariables false
set_option linter.unusedSimpArgs false

theorem flags_agg (m n : Int) (aux : Bool) (hm : m = 8 ∨ m = 16) (h0 : 0 ≤ n) (h1 : n ≤ 4294967295) (w : World) :
    Calls Try.prog 90 #[.int .u64 m, .int .u32 n, .bool aux] w fun e w' => e = .returned (.tuple #[.int .u16 (flagsV m n), .agg #[.bool (flagsF m n aux).s, .bool (flagsF m n aux).z, .bool (flagsF m n aux).a, .bool (flagsF m n aux).p, .bool (flagsF m n aux).c]]) ∧ Below w.heap.size w w' :=
  flags_any m n aux hm h0 h1 w
theorem seven {i : Int} (h0 : 0 ≤ i) (h1 : i ≤ 7) : i = 0 ∨ i = 1 ∨ i = 2 ∨ i = 3 ∨ i = 4 ∨ i = 5 ∨ i = 6 ∨ i = 7 := by omega
theorem res5 {w w1 : World} {a b c d e : Value} {t : TypeId} (hb : Below (w.alloc (.cells #[a, b, c, d, e] t)).heap.size (w.alloc (.cells #[a, b, c, d, e] t)) w1) :
    w1.cell? ⟨w.heap.size, 0, none⟩ = some a ∧ w1.cell? ⟨w.heap.size, 1, none⟩ = some b ∧ w1.cell? ⟨w.heap.size, 2, none⟩ = some c ∧ w1.cell? ⟨w.heap.size, 3, none⟩ = some d ∧ w1.cell? ⟨w.heap.size, 4, none⟩ = some e ∧
    (w1.frozen? ⟨w.heap.size, 0, none⟩ = false ∧ w1.frozen? ⟨w.heap.size, 1, none⟩ = false ∧ w1.frozen? ⟨w.heap.size, 2, none⟩ = false ∧ w1.frozen? ⟨w.heap.size, 3, none⟩ = false ∧ w1.frozen? ⟨w.heap.size, 4, none⟩ = false) ∧ w.heap.size < w1.heap.size := by
  have o := (own_new w #[a, b, c, d, e] t).below hb
  exact ⟨o.cell 0, o.cell 1, o.cell 2, o.cell 3, o.cell 4, ⟨o.frozen 0, o.frozen 1, o.frozen 2, o.frozen 3, o.frozen 4⟩, o.lt⟩

set_option maxRecDepth 100000 in
set_option maxHeartbeats 1000000 in
theorem sum_0x (g : Nat) (a b m : Int) (a0 : 0 ≤ a) (a1 : a ≤ 65535) (b0 : 0 ≤ b) (b1 : b ≤ 65535) (hm : m = 8 ∨ m = 16) (w : World) (c : Bool) (kc : w.cell? ⟨g, 12, none⟩ = some (.bool c)) :
    Calls Try.prog 62 #[at0 g, .int .i64 0, .int .u16 a, .int .u16 b, .int .u64 m] w fun e w' =>
      e = .returned (.tuple #[.int .u16 (flagsV m (sumN 0 a b c)), (flagsF m (sumN 0 a b c) (sumA 0 a b c)).val]) ∧ Below w.heap.size w w' := by
  have hlt := World.block_lt_of_cell? w _ kc
  simp only at hlt
  have x1 := mask15 a a0 (by omega)
  have x2 := mask15 b b0 (by omega)
  have x3 := u32_or a b a0 (by omega) b0 (by omega)
  have x4 := u32_and a b a0 (by omega) b0 (by omega)
  have x5 := u32_xor a b a0 (by omega) b0 (by omega)
  have x6 := bounds_or a b 16 a0 (by omega) b0 (by omega)
  cases c
  · go_enter Try.func62, Try.ntmps62
    go_wp2_with (first
      | (go_at_call 90; with_reducible refine (flags_agg m (a + b) _ hm (by omega) (by omega) _).mono ?_; rintro e w1 ⟨rfl, hb⟩; obtain ⟨q0, q1, q2, q3, q4, ⟨p0, p1, p2, p3, p4⟩, hlt1⟩ := res5 hb))
    refine bodyPost_ret ?_ rfl ⟨rfl, ?_⟩
    · simp [results, Try.results62, go_sem, q0, q1, q2, q3, q4, hlt1, sumN, sumA, cb, Fl.val]
    · repeat (first | with_reducible exact Below.refl _ _ | with_reducible apply bdrew | with_reducible apply balloc | (with_reducible apply bset; focus (first | (simp; done) | (simp; omega))) | with_reducible apply bthen hb)
  · go_enter Try.func62, Try.ntmps62
    go_wp2_with (first
      | (go_at_call 90; with_reducible refine (flags_agg m (a + b) _ hm (by omega) (by omega) _).mono ?_; rintro e w1 ⟨rfl, hb⟩; obtain ⟨q0, q1, q2, q3, q4, ⟨p0, p1, p2, p3, p4⟩, hlt1⟩ := res5 hb))
    refine bodyPost_ret ?_ rfl ⟨rfl, ?_⟩
    · simp [results, Try.results62, go_sem, q0, q1, q2, q3, q4, hlt1, sumN, sumA, cb, Fl.val]
    · repeat (first | with_reducible exact Below.refl _ _ | with_reducible apply bdrew | with_reducible apply balloc | (with_reducible apply bset; focus (first | (simp; done) | (simp; omega))) | with_reducible apply bthen hb)

set_option maxRecDepth 100000 in
set_option maxHeartbeats 1000000 in
theorem sum_1x (g : Nat) (a b m : Int) (a0 : 0 ≤ a) (a1 : a ≤ 65535) (b0 : 0 ≤ b) (b1 : b ≤ 65535) (hm : m = 8 ∨ m = 16) (w : World) (c : Bool) (kc : w.cell? ⟨g, 12, none⟩ = some (.bool c)) :
    Calls Try.prog 62 #[at0 g, .int .i64 1, .int .u16 a, .int .u16 b, .int .u64 m] w fun e w' =>
      e = .returned (.tuple #[.int .u16 (flagsV m (sumN 1 a b c)), (flagsF m (sumN 1 a b c) (sumA 1 a b c)).val]) ∧ Below w.heap.size w w' := by
  have hlt := World.block_lt_of_cell? w _ kc
  simp only at hlt
  have x1 := mask15 a a0 (by omega)
  have x2 := mask15 b b0 (by omega)
  have x3 := u32_or a b a0 (by omega) b0 (by omega)
  have x4 := u32_and a b a0 (by omega) b0 (by omega)
  have x5 := u32_xor a b a0 (by omega) b0 (by omega)
  have x6 := bounds_or a b 16 a0 (by omega) b0 (by omega)
  cases c
  · go_enter Try.func62, Try.ntmps62
    go_wp2_with (first
      | (go_at_call 90; with_reducible refine (flags_agg m (orL a b) _ hm (by omega) (by omega) _).mono ?_; rintro e w1 ⟨rfl, hb⟩; obtain ⟨q0, q1, q2, q3, q4, ⟨p0, p1, p2, p3, p4⟩, hlt1⟩ := res5 hb))
    refine bodyPost_ret ?_ rfl ⟨rfl, ?_⟩
    · simp [results, Try.results62, go_sem, q0, q1, q2, q3, q4, hlt1, sumN, sumA, cb, Fl.val]
    · repeat (first | with_reducible exact Below.refl _ _ | with_reducible apply bdrew | with_reducible apply balloc | (with_reducible apply bset; focus (first | (simp; done) | (simp; omega))) | with_reducible apply bthen hb)
  · go_enter Try.func62, Try.ntmps62
    go_wp2_with (first
      | (go_at_call 90; with_reducible refine (flags_agg m (orL a b) _ hm (by omega) (by omega) _).mono ?_; rintro e w1 ⟨rfl, hb⟩; obtain ⟨q0, q1, q2, q3, q4, ⟨p0, p1, p2, p3, p4⟩, hlt1⟩ := res5 hb))
    refine bodyPost_ret ?_ rfl ⟨rfl, ?_⟩
    · simp [results, Try.results62, go_sem, q0, q1, q2, q3, q4, hlt1, sumN, sumA, cb, Fl.val]
    · repeat (first | with_reducible exact Below.refl _ _ | with_reducible apply bdrew | with_reducible apply balloc | (with_reducible apply bset; focus (first | (simp; done) | (simp; omega))) | with_reducible apply bthen hb)

set_option maxRecDepth 100000 in
set_option maxHeartbeats 1000000 in
theorem sum_2f (g : Nat) (a b m : Int) (a0 : 0 ≤ a) (a1 : a ≤ 65535) (b0 : 0 ≤ b) (b1 : b ≤ 65535) (hm : m = 8 ∨ m = 16) (w : World) (kc : w.cell? ⟨g, 12, none⟩ = some (.bool false)) :
    Calls Try.prog 62 #[at0 g, .int .i64 2, .int .u16 a, .int .u16 b, .int .u64 m] w fun e w' =>
      e = .returned (.tuple #[.int .u16 (flagsV m (sumN 2 a b false)), (flagsF m (sumN 2 a b false) (sumA 2 a b false)).val]) ∧ Below w.heap.size w w' := by
  have hlt := World.block_lt_of_cell? w _ kc
  simp only at hlt
  have x1 := mask15 a a0 (by omega)
  have x2 := mask15 b b0 (by omega)
  have x3 := u32_or a b a0 (by omega) b0 (by omega)
  have x4 := u32_and a b a0 (by omega) b0 (by omega)
  have x5 := u32_xor a b a0 (by omega) b0 (by omega)
  have x6 := bounds_or a b 16 a0 (by omega) b0 (by omega)
  go_enter Try.func62, Try.ntmps62
  go_wp2_with (first
    | (go_at_call 90; with_reducible refine (flags_agg m (a + b) _ hm (by omega) (by omega) _).mono ?_; rintro e w1 ⟨rfl, hb⟩; obtain ⟨q0, q1, q2, q3, q4, ⟨p0, p1, p2, p3, p4⟩, hlt1⟩ := res5 hb))
  refine bodyPost_ret ?_ rfl ⟨rfl, ?_⟩
  · simp [results, Try.results62, go_sem, q0, q1, q2, q3, q4, hlt1, sumN, sumA, cb, Fl.val]
  · repeat (first | with_reducible exact Below.refl _ _ | with_reducible apply bdrew | with_reducible apply balloc | (with_reducible apply bset; focus (first | (simp; done) | (simp; omega))) | with_reducible apply bthen hb)

set_option maxRecDepth 100000 in
set_option maxHeartbeats 1000000 in
theorem sum_2t (g : Nat) (a b m : Int) (a0 : 0 ≤ a) (a1 : a ≤ 65535) (b0 : 0 ≤ b) (b1 : b ≤ 65535) (hm : m = 8 ∨ m = 16) (w : World) (kc : w.cell? ⟨g, 12, none⟩ = some (.bool true)) :
    Calls Try.prog 62 #[at0 g, .int .i64 2, .int .u16 a, .int .u16 b, .int .u64 m] w fun e w' =>
      e = .returned (.tuple #[.int .u16 (flagsV m (sumN 2 a b true)), (flagsF m (sumN 2 a b true) (sumA 2 a b true)).val]) ∧ Below w.heap.size w w' := by
  have hlt := World.block_lt_of_cell? w _ kc
  simp only at hlt
  have x1 := mask15 a a0 (by omega)
  have x2 := mask15 b b0 (by omega)
  have x3 := u32_or a b a0 (by omega) b0 (by omega)
  have x4 := u32_and a b a0 (by omega) b0 (by omega)
  have x5 := u32_xor a b a0 (by omega) b0 (by omega)
  have x6 := bounds_or a b 16 a0 (by omega) b0 (by omega)
  go_enter Try.func62, Try.ntmps62
  go_wp2_with (first
    | (go_at_call 90; with_reducible refine (flags_agg m (a + b + 1) _ hm (by omega) (by omega) _).mono ?_; rintro e w1 ⟨rfl, hb⟩; obtain ⟨q0, q1, q2, q3, q4, ⟨p0, p1, p2, p3, p4⟩, hlt1⟩ := res5 hb))
  refine bodyPost_ret ?_ rfl ⟨rfl, ?_⟩
  · simp [results, Try.results62, go_sem, q0, q1, q2, q3, q4, hlt1, sumN, sumA, cb, Fl.val]
  · repeat (first | with_reducible exact Below.refl _ _ | with_reducible apply bdrew | with_reducible apply balloc | (with_reducible apply bset; focus (first | (simp; done) | (simp; omega))) | with_reducible apply bthen hb)

set_option maxRecDepth 100000 in
set_option maxHeartbeats 1000000 in
theorem sum_3f (g : Nat) (a b m : Int) (a0 : 0 ≤ a) (a1 : a ≤ 65535) (b0 : 0 ≤ b) (b1 : b ≤ 65535) (hm : m = 8 ∨ m = 16) (w : World) (kc : w.cell? ⟨g, 12, none⟩ = some (.bool false)) :
    Calls Try.prog 62 #[at0 g, .int .i64 3, .int .u16 a, .int .u16 b, .int .u64 m] w fun e w' =>
      e = .returned (.tuple #[.int .u16 (flagsV m (sumN 3 a b false)), (flagsF m (sumN 3 a b false) (sumA 3 a b false)).val]) ∧ Below w.heap.size w w' := by
  have hlt := World.block_lt_of_cell? w _ kc
  simp only at hlt
  have x1 := mask15 a a0 (by omega)
  have x2 := mask15 b b0 (by omega)
  have x3 := u32_or a b a0 (by omega) b0 (by omega)
  have x4 := u32_and a b a0 (by omega) b0 (by omega)
  have x5 := u32_xor a b a0 (by omega) b0 (by omega)
  have x6 := bounds_or a b 16 a0 (by omega) b0 (by omega)
  go_enter Try.func62, Try.ntmps62
  go_wp2_with (first
    | (go_at_call 90; with_reducible refine (flags_agg m ((a - b) % 4294967296) _ hm (by omega) (by omega) _).mono ?_; rintro e w1 ⟨rfl, hb⟩; obtain ⟨q0, q1, q2, q3, q4, ⟨p0, p1, p2, p3, p4⟩, hlt1⟩ := res5 hb))
  refine bodyPost_ret ?_ rfl ⟨rfl, ?_⟩
  · simp [results, Try.results62, go_sem, q0, q1, q2, q3, q4, hlt1, sumN, sumA, cb, Fl.val]
  · repeat (first | with_reducible exact Below.refl _ _ | with_reducible apply bdrew | with_reducible apply balloc | (with_reducible apply bset; focus (first | (simp; done) | (simp; omega))) | with_reducible apply bthen hb)

set_option maxRecDepth 100000 in
set_option maxHeartbeats 1000000 in
theorem sum_3t (g : Nat) (a b m : Int) (a0 : 0 ≤ a) (a1 : a ≤ 65535) (b0 : 0 ≤ b) (b1 : b ≤ 65535) (hm : m = 8 ∨ m = 16) (w : World) (kc : w.cell? ⟨g, 12, none⟩ = some (.bool true)) :
    Calls Try.prog 62 #[at0 g, .int .i64 3, .int .u16 a, .int .u16 b, .int .u64 m] w fun e w' =>
      e = .returned (.tuple #[.int .u16 (flagsV m (sumN 3 a b true)), (flagsF m (sumN 3 a b true) (sumA 3 a b true)).val]) ∧ Below w.heap.size w w' := by
  have hlt := World.block_lt_of_cell? w _ kc
  simp only at hlt
  have x1 := mask15 a a0 (by omega)
  have x2 := mask15 b b0 (by omega)
  have x3 := u32_or a b a0 (by omega) b0 (by omega)
  have x4 := u32_and a b a0 (by omega) b0 (by omega)
  have x5 := u32_xor a b a0 (by omega) b0 (by omega)
  have x6 := bounds_or a b 16 a0 (by omega) b0 (by omega)
  go_enter Try.func62, Try.ntmps62
  go_wp2_with (first
    | (go_at_call 90; with_reducible refine (flags_agg m ((a - b - 1) % 4294967296) _ hm (by omega) (by omega) _).mono ?_; rintro e w1 ⟨rfl, hb⟩; obtain ⟨q0, q1, q2, q3, q4, ⟨p0, p1, p2, p3, p4⟩, hlt1⟩ := res5 hb))
  refine bodyPost_ret ?_ rfl ⟨rfl, ?_⟩
  · simp [results, Try.results62, go_sem, q0, q1, q2, q3, q4, hlt1, sumN, sumA, cb, Fl.val]
  · repeat (first | with_reducible exact Below.refl _ _ | with_reducible apply bdrew | with_reducible apply balloc | (with_reducible apply bset; focus (first | (simp; done) | (simp; omega))) | with_reducible apply bthen hb)

set_option maxRecDepth 100000 in
set_option maxHeartbeats 1000000 in
theorem sum_4x (g : Nat) (a b m : Int) (a0 : 0 ≤ a) (a1 : a ≤ 65535) (b0 : 0 ≤ b) (b1 : b ≤ 65535) (hm : m = 8 ∨ m = 16) (w : World) (c : Bool) (kc : w.cell? ⟨g, 12, none⟩ = some (.bool c)) :
    Calls Try.prog 62 #[at0 g, .int .i64 4, .int .u16 a, .int .u16 b, .int .u64 m] w fun e w' =>
      e = .returned (.tuple #[.int .u16 (flagsV m (sumN 4 a b c)), (flagsF m (sumN 4 a b c) (sumA 4 a b c)).val]) ∧ Below w.heap.size w w' := by
  have hlt := World.block_lt_of_cell? w _ kc
  simp only at hlt
  have x1 := mask15 a a0 (by omega)
  have x2 := mask15 b b0 (by omega)
  have x3 := u32_or a b a0 (by omega) b0 (by omega)
  have x4 := u32_and a b a0 (by omega) b0 (by omega)
  have x5 := u32_xor a b a0 (by omega) b0 (by omega)
  have x6 := bounds_or a b 16 a0 (by omega) b0 (by omega)
  cases c
  · go_enter Try.func62, Try.ntmps62
    go_wp2_with (first
      | (go_at_call 90; with_reducible refine (flags_agg m (andL a b) _ hm (by omega) (by omega) _).mono ?_; rintro e w1 ⟨rfl, hb⟩; obtain ⟨q0, q1, q2, q3, q4, ⟨p0, p1, p2, p3, p4⟩, hlt1⟩ := res5 hb))
    refine bodyPost_ret ?_ rfl ⟨rfl, ?_⟩
    · simp [results, Try.results62, go_sem, q0, q1, q2, q3, q4, hlt1, sumN, sumA, cb, Fl.val]
    · repeat (first | with_reducible exact Below.refl _ _ | with_reducible apply bdrew | with_reducible apply balloc | (with_reducible apply bset; focus (first | (simp; done) | (simp; omega))) | with_reducible apply bthen hb)
  · go_enter Try.func62, Try.ntmps62
    go_wp2_with (first
      | (go_at_call 90; with_reducible refine (flags_agg m (andL a b) _ hm (by omega) (by omega) _).mono ?_; rintro e w1 ⟨rfl, hb⟩; obtain ⟨q0, q1, q2, q3, q4, ⟨p0, p1, p2, p3, p4⟩, hlt1⟩ := res5 hb))
    refine bodyPost_ret ?_ rfl ⟨rfl, ?_⟩
    · simp [results, Try.results62, go_sem, q0, q1, q2, q3, q4, hlt1, sumN, sumA, cb, Fl.val]
    · repeat (first | with_reducible exact Below.refl _ _ | with_reducible apply bdrew | with_reducible apply balloc | (with_reducible apply bset; focus (first | (simp; done) | (simp; omega))) | with_reducible apply bthen hb)

set_option maxRecDepth 100000 in
set_option maxHeartbeats 1000000 in
theorem sum_5x (g : Nat) (a b m : Int) (a0 : 0 ≤ a) (a1 : a ≤ 65535) (b0 : 0 ≤ b) (b1 : b ≤ 65535) (hm : m = 8 ∨ m = 16) (w : World) (c : Bool) (kc : w.cell? ⟨g, 12, none⟩ = some (.bool c)) :
    Calls Try.prog 62 #[at0 g, .int .i64 5, .int .u16 a, .int .u16 b, .int .u64 m] w fun e w' =>
      e = .returned (.tuple #[.int .u16 (flagsV m (sumN 5 a b c)), (flagsF m (sumN 5 a b c) (sumA 5 a b c)).val]) ∧ Below w.heap.size w w' := by
  have hlt := World.block_lt_of_cell? w _ kc
  simp only at hlt
  have x1 := mask15 a a0 (by omega)
  have x2 := mask15 b b0 (by omega)
  have x3 := u32_or a b a0 (by omega) b0 (by omega)
  have x4 := u32_and a b a0 (by omega) b0 (by omega)
  have x5 := u32_xor a b a0 (by omega) b0 (by omega)
  have x6 := bounds_or a b 16 a0 (by omega) b0 (by omega)
  cases c
  · go_enter Try.func62, Try.ntmps62
    go_wp2_with (first
      | (go_at_call 90; with_reducible refine (flags_agg m ((a - b) % 4294967296) _ hm (by omega) (by omega) _).mono ?_; rintro e w1 ⟨rfl, hb⟩; obtain ⟨q0, q1, q2, q3, q4, ⟨p0, p1, p2, p3, p4⟩, hlt1⟩ := res5 hb))
    refine bodyPost_ret ?_ rfl ⟨rfl, ?_⟩
    · simp [results, Try.results62, go_sem, q0, q1, q2, q3, q4, hlt1, sumN, sumA, cb, Fl.val]
    · repeat (first | with_reducible exact Below.refl _ _ | with_reducible apply bdrew | with_reducible apply balloc | (with_reducible apply bset; focus (first | (simp; done) | (simp; omega))) | with_reducible apply bthen hb)
  · go_enter Try.func62, Try.ntmps62
    go_wp2_with (first
      | (go_at_call 90; with_reducible refine (flags_agg m ((a - b) % 4294967296) _ hm (by omega) (by omega) _).mono ?_; rintro e w1 ⟨rfl, hb⟩; obtain ⟨q0, q1, q2, q3, q4, ⟨p0, p1, p2, p3, p4⟩, hlt1⟩ := res5 hb))
    refine bodyPost_ret ?_ rfl ⟨rfl, ?_⟩
    · simp [results, Try.results62, go_sem, q0, q1, q2, q3, q4, hlt1, sumN, sumA, cb, Fl.val]
    · repeat (first | with_reducible exact Below.refl _ _ | with_reducible apply bdrew | with_reducible apply balloc | (with_reducible apply bset; focus (first | (simp; done) | (simp; omega))) | with_reducible apply bthen hb)

set_option maxRecDepth 100000 in
set_option maxHeartbeats 1000000 in
theorem sum_6x (g : Nat) (a b m : Int) (a0 : 0 ≤ a) (a1 : a ≤ 65535) (b0 : 0 ≤ b) (b1 : b ≤ 65535) (hm : m = 8 ∨ m = 16) (w : World) (c : Bool) (kc : w.cell? ⟨g, 12, none⟩ = some (.bool c)) :
    Calls Try.prog 62 #[at0 g, .int .i64 6, .int .u16 a, .int .u16 b, .int .u64 m] w fun e w' =>
      e = .returned (.tuple #[.int .u16 (flagsV m (sumN 6 a b c)), (flagsF m (sumN 6 a b c) (sumA 6 a b c)).val]) ∧ Below w.heap.size w w' := by
  have hlt := World.block_lt_of_cell? w _ kc
  simp only at hlt
  have x1 := mask15 a a0 (by omega)
  have x2 := mask15 b b0 (by omega)
  have x3 := u32_or a b a0 (by omega) b0 (by omega)
  have x4 := u32_and a b a0 (by omega) b0 (by omega)
  have x5 := u32_xor a b a0 (by omega) b0 (by omega)
  have x6 := bounds_or a b 16 a0 (by omega) b0 (by omega)
  cases c
  · go_enter Try.func62, Try.ntmps62
    go_wp2_with (first
      | (go_at_call 90; with_reducible refine (flags_agg m (xorL a b) _ hm (by omega) (by omega) _).mono ?_; rintro e w1 ⟨rfl, hb⟩; obtain ⟨q0, q1, q2, q3, q4, ⟨p0, p1, p2, p3, p4⟩, hlt1⟩ := res5 hb))
    refine bodyPost_ret ?_ rfl ⟨rfl, ?_⟩
    · simp [results, Try.results62, go_sem, q0, q1, q2, q3, q4, hlt1, sumN, sumA, cb, Fl.val]
    · repeat (first | with_reducible exact Below.refl _ _ | with_reducible apply bdrew | with_reducible apply balloc | (with_reducible apply bset; focus (first | (simp; done) | (simp; omega))) | with_reducible apply bthen hb)
  · go_enter Try.func62, Try.ntmps62
    go_wp2_with (first
      | (go_at_call 90; with_reducible refine (flags_agg m (xorL a b) _ hm (by omega) (by omega) _).mono ?_; rintro e w1 ⟨rfl, hb⟩; obtain ⟨q0, q1, q2, q3, q4, ⟨p0, p1, p2, p3, p4⟩, hlt1⟩ := res5 hb))
    refine bodyPost_ret ?_ rfl ⟨rfl, ?_⟩
    · simp [results, Try.results62, go_sem, q0, q1, q2, q3, q4, hlt1, sumN, sumA, cb, Fl.val]
    · repeat (first | with_reducible exact Below.refl _ _ | with_reducible apply bdrew | with_reducible apply balloc | (with_reducible apply bset; focus (first | (simp; done) | (simp; omega))) | with_reducible apply bthen hb)

set_option maxRecDepth 100000 in
set_option maxHeartbeats 1000000 in
theorem sum_7x (g : Nat) (a b m : Int) (a0 : 0 ≤ a) (a1 : a ≤ 65535) (b0 : 0 ≤ b) (b1 : b ≤ 65535) (hm : m = 8 ∨ m = 16) (w : World) (c : Bool) (kc : w.cell? ⟨g, 12, none⟩ = some (.bool c)) :
    Calls Try.prog 62 #[at0 g, .int .i64 7, .int .u16 a, .int .u16 b, .int .u64 m] w fun e w' =>
      e = .returned (.tuple #[.int .u16 (flagsV m (sumN 7 a b c)), (flagsF m (sumN 7 a b c) (sumA 7 a b c)).val]) ∧ Below w.heap.size w w' := by
  have hlt := World.block_lt_of_cell? w _ kc
  simp only at hlt
  have x1 := mask15 a a0 (by omega)
  have x2 := mask15 b b0 (by omega)
  have x3 := u32_or a b a0 (by omega) b0 (by omega)
  have x4 := u32_and a b a0 (by omega) b0 (by omega)
  have x5 := u32_xor a b a0 (by omega) b0 (by omega)
  have x6 := bounds_or a b 16 a0 (by omega) b0 (by omega)
  cases c
  · go_enter Try.func62, Try.ntmps62
    go_wp2_with (first
      | (go_at_call 90; with_reducible refine (flags_agg m ((a - b) % 4294967296) _ hm (by omega) (by omega) _).mono ?_; rintro e w1 ⟨rfl, hb⟩; obtain ⟨q0, q1, q2, q3, q4, ⟨p0, p1, p2, p3, p4⟩, hlt1⟩ := res5 hb))
    refine bodyPost_ret ?_ rfl ⟨rfl, ?_⟩
    · simp [results, Try.results62, go_sem, q0, q1, q2, q3, q4, hlt1, sumN, sumA, cb, Fl.val]
    · repeat (first | with_reducible exact Below.refl _ _ | with_reducible apply bdrew | with_reducible apply balloc | (with_reducible apply bset; focus (first | (simp; done) | (simp; omega))) | with_reducible apply bthen hb)
  · go_enter Try.func62, Try.ntmps62
    go_wp2_with (first
      | (go_at_call 90; with_reducible refine (flags_agg m ((a - b) % 4294967296) _ hm (by omega) (by omega) _).mono ?_; rintro e w1 ⟨rfl, hb⟩; obtain ⟨q0, q1, q2, q3, q4, ⟨p0, p1, p2, p3, p4⟩, hlt1⟩ := res5 hb))
    refine bodyPost_ret ?_ rfl ⟨rfl, ?_⟩
    · simp [results, Try.results62, go_sem, q0, q1, q2, q3, q4, hlt1, sumN, sumA, cb, Fl.val]
    · repeat (first | with_reducible exact Below.refl _ _ | with_reducible apply bdrew | with_reducible apply balloc | (with_reducible apply bset; focus (first | (simp; done) | (simp; omega))) | with_reducible apply bthen hb)

theorem sum_any (g : Nat) (k a b m : Int) (k0 : 0 ≤ k) (k1 : k ≤ 7) (a0 : 0 ≤ a) (a1 : a ≤ 65535) (b0 : 0 ≤ b) (b1 : b ≤ 65535) (hm : m = 8 ∨ m = 16) (w : World) (c : Bool) (kc : w.cell? ⟨g, 12, none⟩ = some (.bool c)) :
    Calls Try.prog 62 #[at0 g, .int .i64 k, .int .u16 a, .int .u16 b, .int .u64 m] w fun e w' =>
      e = .returned (.tuple #[.int .u16 (flagsV m (sumN k a b c)), (flagsF m (sumN k a b c) (sumA k a b c)).val]) ∧ Below w.heap.size w w' := by
  rcases seven k0 k1 with rfl | rfl | rfl | rfl | rfl | rfl | rfl | rfl
  · exact sum_0x g a b m a0 a1 b0 b1 hm w c kc
  · exact sum_1x g a b m a0 a1 b0 b1 hm w c kc
  · cases c
    · exact sum_2f g a b m a0 a1 b0 b1 hm w kc
    · exact sum_2t g a b m a0 a1 b0 b1 hm w kc
  · cases c
    · exact sum_3f g a b m a0 a1 b0 b1 hm w kc
    · exact sum_3t g a b m a0 a1 b0 b1 hm w kc
  · exact sum_4x g a b m a0 a1 b0 b1 hm w c kc
  · exact sum_5x g a b m a0 a1 b0 b1 hm w c kc
  · exact sum_6x g a b m a0 a1 b0 b1 hm w c kc
  · exact sum_7x g a b m a0 a1 b0 b1 hm w c kc

end Go.Proofs.Ytbhkndblolegaaa
