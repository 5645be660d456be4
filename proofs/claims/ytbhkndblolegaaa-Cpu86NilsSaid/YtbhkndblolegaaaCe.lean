/- The walk of cpu86's turn. -/
import Derived.Test.YtbhkndblolegaaaCc
namespace Go.Proofs.Ytbhkndblolegaaa
open Go.RowKit
set_option linter.unusedVariables false
set_option linter.unusedSimpArgs false

theorem or_even (x : Int) (h0 : 0 ≤ x) (h1 : x ≤ 32767) : bits .or .u16 (x * 2) 1 = x * 2 + 1 := by
  rw [u16_or (x * 2) 1 (by omega) (by omega) (by omega) (by omega)]
  obtain ⟨n, rfl⟩ := Int.eq_ofNat_of_zero_le h0
  have := Nat.two_pow_add_eq_or_of_lt (i := 1) (b := 1) (by decide) n
  unfold orL
  have e : ((n : Int) * 2).toNat = 2 ^ 1 * n := by omega
  rw [e, show (1 : Int).toNat = 1 from rfl, ← this]
  omega
theorem or_high (x : Int) (k : Nat) (hk : k ≤ 15) (h0 : 0 ≤ x) (h1 : x < ((2 ^ k : Nat) : Int)) : bits .or .u16 x ((2 ^ k : Nat) : Int) = x + ((2 ^ k : Nat) : Int) := by
  have hp : 2 ^ k ≤ 2 ^ 15 := Nat.pow_le_pow_right (by decide) hk
  rw [u16_or x _ h0 (by omega) (by omega) (by omega)]
  obtain ⟨n, rfl⟩ := Int.eq_ofNat_of_zero_le h0
  have := Nat.two_pow_add_eq_or_of_lt (i := k) (b := n) (by omega) 1
  unfold orL
  simp only [Int.toNat_natCast]
  rw [Nat.or_comm, ← Nat.mul_one (2 ^ k), ← this]
  omega
theorem odd1 (v : Int) (h : v % 2 = 1) : (v % 2 != 0) = true := by rw [h]; rfl
theorem even1 (v : Int) (h : ¬ v % 2 = 1) : (v % 2 != 0) = false := by
  have : v % 2 = 0 := by omega
  rw [this]; rfl

set_option maxRecDepth 100000 in
set_option maxHeartbeats 1000000 in
theorem turn_0_8t (g : Nat) (v : Int) (v0 : 0 ≤ v) (v1 : v ≤ 255) (h : 128 ≤ v) (w : World) (c : Bool) (kc : w.cell? ⟨g, 12, none⟩ = some (.bool c)) (kf : w.frozen? ⟨g, 12, none⟩ = false) :
    Calls Try.prog 63 #[at0 g, .int .i64 0, .int .u16 v, .int .u64 8] w fun e w' => e = .returned (.int .u16 (turnV 0 v c 8)) ∧ w' = w.setCell ⟨g, 12, none⟩ (.bool true) := by
  have ev : turnV 0 v c 8 = (v * 2 + 1) % 256 := by
    unfold turnV turnI turnO topL flagsV
    simp [h, cb]
    try omega
  rw [ev]
  have t1 := bit1w v v0 (by omega)
  have t2 := top8 v v0 (by omega)
  rw [decide_eq_true h] at t2
  have t3 := or_even v v0 (by omega)
  have t4 := mask8 (v * 2 + 1) (by omega) (by omega)
  have t5 := mask8 (v * 2) (by omega) (by omega)
  have a1 : bits BinOp.and IntKind.i64 0 1 = 0 := by decide
  have a2 : bits BinOp.and IntKind.i64 0 2 = 0 := by decide
  go_enter Try.func63, Try.ntmps63
  go_wp2_with (first
    | (go_at_call 92; with_reducible refine (mask_any 8 (by decide) _).mono ?_; rintro e w1 ⟨rfl, rfl⟩)
    | (go_at_call 91; with_reducible refine (top_any 8 (by decide) _).mono ?_; rintro e w1 ⟨rfl, rfl⟩))
  go_ret
  exact ⟨congrArg (fun x => Ending.returned (Value.int .u16 x)) (by omega), rfl⟩

set_option maxRecDepth 100000 in
set_option maxHeartbeats 1000000 in
theorem turn_0_8f (g : Nat) (v : Int) (v0 : 0 ≤ v) (v1 : v ≤ 255) (h : ¬ 128 ≤ v) (w : World) (c : Bool) (kc : w.cell? ⟨g, 12, none⟩ = some (.bool c)) (kf : w.frozen? ⟨g, 12, none⟩ = false) :
    Calls Try.prog 63 #[at0 g, .int .i64 0, .int .u16 v, .int .u64 8] w fun e w' => e = .returned (.int .u16 (turnV 0 v c 8)) ∧ w' = w.setCell ⟨g, 12, none⟩ (.bool false) := by
  have ev : turnV 0 v c 8 = (v * 2) % 256 := by
    unfold turnV turnI turnO topL flagsV
    simp [h, cb]
    try omega
  rw [ev]
  have t1 := bit1w v v0 (by omega)
  have t2 := top8 v v0 (by omega)
  rw [decide_eq_false h] at t2
  have t3 := or_even v v0 (by omega)
  have t4 := mask8 (v * 2 + 1) (by omega) (by omega)
  have t5 := mask8 (v * 2) (by omega) (by omega)
  have a1 : bits BinOp.and IntKind.i64 0 1 = 0 := by decide
  have a2 : bits BinOp.and IntKind.i64 0 2 = 0 := by decide
  go_enter Try.func63, Try.ntmps63
  go_wp2_with (first
    | (go_at_call 92; with_reducible refine (mask_any 8 (by decide) _).mono ?_; rintro e w1 ⟨rfl, rfl⟩)
    | (go_at_call 91; with_reducible refine (top_any 8 (by decide) _).mono ?_; rintro e w1 ⟨rfl, rfl⟩))
  go_ret
  exact ⟨congrArg (fun x => Ending.returned (Value.int .u16 x)) (by omega), rfl⟩

set_option maxRecDepth 100000 in
set_option maxHeartbeats 1000000 in
theorem turn_0_16t (g : Nat) (v : Int) (v0 : 0 ≤ v) (v1 : v ≤ 65535) (h : 32768 ≤ v) (w : World) (c : Bool) (kc : w.cell? ⟨g, 12, none⟩ = some (.bool c)) (kf : w.frozen? ⟨g, 12, none⟩ = false) :
    Calls Try.prog 63 #[at0 g, .int .i64 0, .int .u16 v, .int .u64 16] w fun e w' => e = .returned (.int .u16 (turnV 0 v c 16)) ∧ w' = w.setCell ⟨g, 12, none⟩ (.bool true) := by
  have ev : turnV 0 v c 16 = (v * 2 + 1) % 65536 := by
    unfold turnV turnI turnO topL flagsV
    simp [h, cb]
    try omega
  rw [ev]
  have t1 := bit1w v v0 (by omega)
  have t2 := top16 v v0 (by omega)
  rw [decide_eq_true h] at t2
  have hw : IntKind.u16.wrap (v * 2) = (v - 32768) * 2 := by
    simp only [IntKind.wrap, IntKind.bits, IntKind.signed]
    simp
    omega
  have t3 := or_even (v - 32768) (by omega) (by omega)
  have t4 := mask16 ((v - 32768) * 2 + 1) (by omega) (by omega)
  have t5 := mask16 ((v - 32768) * 2) (by omega) (by omega)
  have a1 : bits BinOp.and IntKind.i64 0 1 = 0 := by decide
  have a2 : bits BinOp.and IntKind.i64 0 2 = 0 := by decide
  go_enter Try.func63, Try.ntmps63
  go_wp2_with (first
    | (go_at_call 92; with_reducible refine (mask_any 16 (by decide) _).mono ?_; rintro e w1 ⟨rfl, rfl⟩)
    | (go_at_call 91; with_reducible refine (top_any 16 (by decide) _).mono ?_; rintro e w1 ⟨rfl, rfl⟩))
  go_ret
  exact ⟨congrArg (fun x => Ending.returned (Value.int .u16 x)) (by omega), rfl⟩

set_option maxRecDepth 100000 in
set_option maxHeartbeats 1000000 in
theorem turn_0_16f (g : Nat) (v : Int) (v0 : 0 ≤ v) (v1 : v ≤ 65535) (h : ¬ 32768 ≤ v) (w : World) (c : Bool) (kc : w.cell? ⟨g, 12, none⟩ = some (.bool c)) (kf : w.frozen? ⟨g, 12, none⟩ = false) :
    Calls Try.prog 63 #[at0 g, .int .i64 0, .int .u16 v, .int .u64 16] w fun e w' => e = .returned (.int .u16 (turnV 0 v c 16)) ∧ w' = w.setCell ⟨g, 12, none⟩ (.bool false) := by
  have ev : turnV 0 v c 16 = (v * 2) % 65536 := by
    unfold turnV turnI turnO topL flagsV
    simp [h, cb]
    try omega
  rw [ev]
  have t1 := bit1w v v0 (by omega)
  have t2 := top16 v v0 (by omega)
  rw [decide_eq_false h] at t2
  have t3 := or_even v (by omega) (by omega)
  have t4 := mask16 (v * 2 + 1) (by omega) (by omega)
  have t5 := mask16 (v * 2) (by omega) (by omega)
  have a1 : bits BinOp.and IntKind.i64 0 1 = 0 := by decide
  have a2 : bits BinOp.and IntKind.i64 0 2 = 0 := by decide
  go_enter Try.func63, Try.ntmps63
  go_wp2_with (first
    | (go_at_call 92; with_reducible refine (mask_any 16 (by decide) _).mono ?_; rintro e w1 ⟨rfl, rfl⟩)
    | (go_at_call 91; with_reducible refine (top_any 16 (by decide) _).mono ?_; rintro e w1 ⟨rfl, rfl⟩))
  go_ret
  exact ⟨congrArg (fun x => Ending.returned (Value.int .u16 x)) (by omega), rfl⟩

set_option maxRecDepth 100000 in
set_option maxHeartbeats 1000000 in
theorem turn_1_8t (g : Nat) (v : Int) (v0 : 0 ≤ v) (v1 : v ≤ 255) (h : v % 2 = 1) (w : World) (c : Bool) (kc : w.cell? ⟨g, 12, none⟩ = some (.bool c)) (kf : w.frozen? ⟨g, 12, none⟩ = false) :
    Calls Try.prog 63 #[at0 g, .int .i64 1, .int .u16 v, .int .u64 8] w fun e w' => e = .returned (.int .u16 (turnV 1 v c 8)) ∧ w' = w.setCell ⟨g, 12, none⟩ (.bool true) := by
  have ev : turnV 1 v c 8 = v / 2 + 128 := by
    unfold turnV turnI turnO topL flagsV
    simp [h, cb]
    try omega
  rw [ev]
  have t1 := bit1w v v0 (by omega)
  have t2 := odd1 v h
  have t3 := or_high (v / 2) 7 (by omega) (by omega) (by simp; omega)
  rw [show ((2 ^ 7 : Nat) : Int) = 128 from rfl] at t3
  have t4 : (v % 2) = 1 := h
  have a1 : bits BinOp.and IntKind.i64 1 1 = 1 := by decide
  have a2 : bits BinOp.and IntKind.i64 1 2 = 0 := by decide
  go_enter Try.func63, Try.ntmps63
  go_wp2_with (first
    | (go_at_call 92; with_reducible refine (mask_any 8 (by decide) _).mono ?_; rintro e w1 ⟨rfl, rfl⟩)
    | (go_at_call 91; with_reducible refine (top_any 8 (by decide) _).mono ?_; rintro e w1 ⟨rfl, rfl⟩))
  go_ret
  exact ⟨congrArg (fun x => Ending.returned (Value.int .u16 x)) (by omega), rfl⟩

set_option maxRecDepth 100000 in
set_option maxHeartbeats 1000000 in
theorem turn_1_8f (g : Nat) (v : Int) (v0 : 0 ≤ v) (v1 : v ≤ 255) (h : ¬ v % 2 = 1) (w : World) (c : Bool) (kc : w.cell? ⟨g, 12, none⟩ = some (.bool c)) (kf : w.frozen? ⟨g, 12, none⟩ = false) :
    Calls Try.prog 63 #[at0 g, .int .i64 1, .int .u16 v, .int .u64 8] w fun e w' => e = .returned (.int .u16 (turnV 1 v c 8)) ∧ w' = w.setCell ⟨g, 12, none⟩ (.bool false) := by
  have ev : turnV 1 v c 8 = v / 2 := by
    unfold turnV turnI turnO topL flagsV
    simp [h, cb]
    try omega
  rw [ev]
  have t1 := bit1w v v0 (by omega)
  have t2 := even1 v h
  have t3 := or_high (v / 2) 7 (by omega) (by omega) (by simp; omega)
  rw [show ((2 ^ 7 : Nat) : Int) = 128 from rfl] at t3
  have t4 : (v % 2) = 0 := by omega
  have a1 : bits BinOp.and IntKind.i64 1 1 = 1 := by decide
  have a2 : bits BinOp.and IntKind.i64 1 2 = 0 := by decide
  go_enter Try.func63, Try.ntmps63
  go_wp2_with (first
    | (go_at_call 92; with_reducible refine (mask_any 8 (by decide) _).mono ?_; rintro e w1 ⟨rfl, rfl⟩)
    | (go_at_call 91; with_reducible refine (top_any 8 (by decide) _).mono ?_; rintro e w1 ⟨rfl, rfl⟩))
  go_ret
  exact ⟨congrArg (fun x => Ending.returned (Value.int .u16 x)) (by omega), rfl⟩

set_option maxRecDepth 100000 in
set_option maxHeartbeats 1000000 in
theorem turn_1_16t (g : Nat) (v : Int) (v0 : 0 ≤ v) (v1 : v ≤ 65535) (h : v % 2 = 1) (w : World) (c : Bool) (kc : w.cell? ⟨g, 12, none⟩ = some (.bool c)) (kf : w.frozen? ⟨g, 12, none⟩ = false) :
    Calls Try.prog 63 #[at0 g, .int .i64 1, .int .u16 v, .int .u64 16] w fun e w' => e = .returned (.int .u16 (turnV 1 v c 16)) ∧ w' = w.setCell ⟨g, 12, none⟩ (.bool true) := by
  have ev : turnV 1 v c 16 = v / 2 + 32768 := by
    unfold turnV turnI turnO topL flagsV
    simp [h, cb]
    try omega
  rw [ev]
  have t1 := bit1w v v0 (by omega)
  have t2 := odd1 v h
  have t3 := or_high (v / 2) 15 (by omega) (by omega) (by simp; omega)
  rw [show ((2 ^ 15 : Nat) : Int) = 32768 from rfl] at t3
  have t4 : (v % 2) = 1 := h
  have a1 : bits BinOp.and IntKind.i64 1 1 = 1 := by decide
  have a2 : bits BinOp.and IntKind.i64 1 2 = 0 := by decide
  go_enter Try.func63, Try.ntmps63
  go_wp2_with (first
    | (go_at_call 92; with_reducible refine (mask_any 16 (by decide) _).mono ?_; rintro e w1 ⟨rfl, rfl⟩)
    | (go_at_call 91; with_reducible refine (top_any 16 (by decide) _).mono ?_; rintro e w1 ⟨rfl, rfl⟩))
  go_ret
  exact ⟨congrArg (fun x => Ending.returned (Value.int .u16 x)) (by omega), rfl⟩

set_option maxRecDepth 100000 in
set_option maxHeartbeats 1000000 in
theorem turn_1_16f (g : Nat) (v : Int) (v0 : 0 ≤ v) (v1 : v ≤ 65535) (h : ¬ v % 2 = 1) (w : World) (c : Bool) (kc : w.cell? ⟨g, 12, none⟩ = some (.bool c)) (kf : w.frozen? ⟨g, 12, none⟩ = false) :
    Calls Try.prog 63 #[at0 g, .int .i64 1, .int .u16 v, .int .u64 16] w fun e w' => e = .returned (.int .u16 (turnV 1 v c 16)) ∧ w' = w.setCell ⟨g, 12, none⟩ (.bool false) := by
  have ev : turnV 1 v c 16 = v / 2 := by
    unfold turnV turnI turnO topL flagsV
    simp [h, cb]
    try omega
  rw [ev]
  have t1 := bit1w v v0 (by omega)
  have t2 := even1 v h
  have t3 := or_high (v / 2) 15 (by omega) (by omega) (by simp; omega)
  rw [show ((2 ^ 15 : Nat) : Int) = 32768 from rfl] at t3
  have t4 : (v % 2) = 0 := by omega
  have a1 : bits BinOp.and IntKind.i64 1 1 = 1 := by decide
  have a2 : bits BinOp.and IntKind.i64 1 2 = 0 := by decide
  go_enter Try.func63, Try.ntmps63
  go_wp2_with (first
    | (go_at_call 92; with_reducible refine (mask_any 16 (by decide) _).mono ?_; rintro e w1 ⟨rfl, rfl⟩)
    | (go_at_call 91; with_reducible refine (top_any 16 (by decide) _).mono ?_; rintro e w1 ⟨rfl, rfl⟩))
  go_ret
  exact ⟨congrArg (fun x => Ending.returned (Value.int .u16 x)) (by omega), rfl⟩

set_option maxRecDepth 100000 in
set_option maxHeartbeats 1000000 in
theorem turn_2_8tt (g : Nat) (v : Int) (v0 : 0 ≤ v) (v1 : v ≤ 255) (h : 128 ≤ v) (w : World) (kc : w.cell? ⟨g, 12, none⟩ = some (.bool true)) (kf : w.frozen? ⟨g, 12, none⟩ = false) :
    Calls Try.prog 63 #[at0 g, .int .i64 2, .int .u16 v, .int .u64 8] w fun e w' => e = .returned (.int .u16 (turnV 2 v true 8)) ∧ w' = w.setCell ⟨g, 12, none⟩ (.bool true) := by
  have ev : turnV 2 v true 8 = (v * 2 + 1) % 256 := by
    unfold turnV turnI turnO topL flagsV
    simp [h, cb]
    try omega
  rw [ev]
  have t1 := bit1w v v0 (by omega)
  have t2 := top8 v v0 (by omega)
  rw [decide_eq_true h] at t2
  have t3 := or_even v v0 (by omega)
  have t4 := mask8 (v * 2 + 1) (by omega) (by omega)
  have t5 := mask8 (v * 2) (by omega) (by omega)
  have a1 : bits BinOp.and IntKind.i64 2 1 = 0 := by decide
  have a2 : bits BinOp.and IntKind.i64 2 2 = 2 := by decide
  go_enter Try.func63, Try.ntmps63
  go_wp2_with (first
    | (go_at_call 92; with_reducible refine (mask_any 8 (by decide) _).mono ?_; rintro e w1 ⟨rfl, rfl⟩)
    | (go_at_call 91; with_reducible refine (top_any 8 (by decide) _).mono ?_; rintro e w1 ⟨rfl, rfl⟩))
  go_ret
  exact ⟨congrArg (fun x => Ending.returned (Value.int .u16 x)) (by omega), rfl⟩

set_option maxRecDepth 100000 in
set_option maxHeartbeats 1000000 in
theorem turn_2_8tf (g : Nat) (v : Int) (v0 : 0 ≤ v) (v1 : v ≤ 255) (h : 128 ≤ v) (w : World) (kc : w.cell? ⟨g, 12, none⟩ = some (.bool false)) (kf : w.frozen? ⟨g, 12, none⟩ = false) :
    Calls Try.prog 63 #[at0 g, .int .i64 2, .int .u16 v, .int .u64 8] w fun e w' => e = .returned (.int .u16 (turnV 2 v false 8)) ∧ w' = w.setCell ⟨g, 12, none⟩ (.bool true) := by
  have ev : turnV 2 v false 8 = (v * 2) % 256 := by
    unfold turnV turnI turnO topL flagsV
    simp [h, cb]
    try omega
  rw [ev]
  have t1 := bit1w v v0 (by omega)
  have t2 := top8 v v0 (by omega)
  rw [decide_eq_true h] at t2
  have t3 := or_even v v0 (by omega)
  have t4 := mask8 (v * 2 + 1) (by omega) (by omega)
  have t5 := mask8 (v * 2) (by omega) (by omega)
  have a1 : bits BinOp.and IntKind.i64 2 1 = 0 := by decide
  have a2 : bits BinOp.and IntKind.i64 2 2 = 2 := by decide
  go_enter Try.func63, Try.ntmps63
  go_wp2_with (first
    | (go_at_call 92; with_reducible refine (mask_any 8 (by decide) _).mono ?_; rintro e w1 ⟨rfl, rfl⟩)
    | (go_at_call 91; with_reducible refine (top_any 8 (by decide) _).mono ?_; rintro e w1 ⟨rfl, rfl⟩))
  go_ret
  exact ⟨congrArg (fun x => Ending.returned (Value.int .u16 x)) (by omega), rfl⟩

set_option maxRecDepth 100000 in
set_option maxHeartbeats 1000000 in
theorem turn_2_8ft (g : Nat) (v : Int) (v0 : 0 ≤ v) (v1 : v ≤ 255) (h : ¬ 128 ≤ v) (w : World) (kc : w.cell? ⟨g, 12, none⟩ = some (.bool true)) (kf : w.frozen? ⟨g, 12, none⟩ = false) :
    Calls Try.prog 63 #[at0 g, .int .i64 2, .int .u16 v, .int .u64 8] w fun e w' => e = .returned (.int .u16 (turnV 2 v true 8)) ∧ w' = w.setCell ⟨g, 12, none⟩ (.bool false) := by
  have ev : turnV 2 v true 8 = (v * 2 + 1) % 256 := by
    unfold turnV turnI turnO topL flagsV
    simp [h, cb]
    try omega
  rw [ev]
  have t1 := bit1w v v0 (by omega)
  have t2 := top8 v v0 (by omega)
  rw [decide_eq_false h] at t2
  have t3 := or_even v v0 (by omega)
  have t4 := mask8 (v * 2 + 1) (by omega) (by omega)
  have t5 := mask8 (v * 2) (by omega) (by omega)
  have a1 : bits BinOp.and IntKind.i64 2 1 = 0 := by decide
  have a2 : bits BinOp.and IntKind.i64 2 2 = 2 := by decide
  go_enter Try.func63, Try.ntmps63
  go_wp2_with (first
    | (go_at_call 92; with_reducible refine (mask_any 8 (by decide) _).mono ?_; rintro e w1 ⟨rfl, rfl⟩)
    | (go_at_call 91; with_reducible refine (top_any 8 (by decide) _).mono ?_; rintro e w1 ⟨rfl, rfl⟩))
  go_ret
  exact ⟨congrArg (fun x => Ending.returned (Value.int .u16 x)) (by omega), rfl⟩

set_option maxRecDepth 100000 in
set_option maxHeartbeats 1000000 in
theorem turn_2_8ff (g : Nat) (v : Int) (v0 : 0 ≤ v) (v1 : v ≤ 255) (h : ¬ 128 ≤ v) (w : World) (kc : w.cell? ⟨g, 12, none⟩ = some (.bool false)) (kf : w.frozen? ⟨g, 12, none⟩ = false) :
    Calls Try.prog 63 #[at0 g, .int .i64 2, .int .u16 v, .int .u64 8] w fun e w' => e = .returned (.int .u16 (turnV 2 v false 8)) ∧ w' = w.setCell ⟨g, 12, none⟩ (.bool false) := by
  have ev : turnV 2 v false 8 = (v * 2) % 256 := by
    unfold turnV turnI turnO topL flagsV
    simp [h, cb]
    try omega
  rw [ev]
  have t1 := bit1w v v0 (by omega)
  have t2 := top8 v v0 (by omega)
  rw [decide_eq_false h] at t2
  have t3 := or_even v v0 (by omega)
  have t4 := mask8 (v * 2 + 1) (by omega) (by omega)
  have t5 := mask8 (v * 2) (by omega) (by omega)
  have a1 : bits BinOp.and IntKind.i64 2 1 = 0 := by decide
  have a2 : bits BinOp.and IntKind.i64 2 2 = 2 := by decide
  go_enter Try.func63, Try.ntmps63
  go_wp2_with (first
    | (go_at_call 92; with_reducible refine (mask_any 8 (by decide) _).mono ?_; rintro e w1 ⟨rfl, rfl⟩)
    | (go_at_call 91; with_reducible refine (top_any 8 (by decide) _).mono ?_; rintro e w1 ⟨rfl, rfl⟩))
  go_ret
  exact ⟨congrArg (fun x => Ending.returned (Value.int .u16 x)) (by omega), rfl⟩

set_option maxRecDepth 100000 in
set_option maxHeartbeats 1000000 in
theorem turn_2_16tt (g : Nat) (v : Int) (v0 : 0 ≤ v) (v1 : v ≤ 65535) (h : 32768 ≤ v) (w : World) (kc : w.cell? ⟨g, 12, none⟩ = some (.bool true)) (kf : w.frozen? ⟨g, 12, none⟩ = false) :
    Calls Try.prog 63 #[at0 g, .int .i64 2, .int .u16 v, .int .u64 16] w fun e w' => e = .returned (.int .u16 (turnV 2 v true 16)) ∧ w' = w.setCell ⟨g, 12, none⟩ (.bool true) := by
  have ev : turnV 2 v true 16 = (v * 2 + 1) % 65536 := by
    unfold turnV turnI turnO topL flagsV
    simp [h, cb]
    try omega
  rw [ev]
  have t1 := bit1w v v0 (by omega)
  have t2 := top16 v v0 (by omega)
  rw [decide_eq_true h] at t2
  have hw : IntKind.u16.wrap (v * 2) = (v - 32768) * 2 := by
    simp only [IntKind.wrap, IntKind.bits, IntKind.signed]
    simp
    omega
  have t3 := or_even (v - 32768) (by omega) (by omega)
  have t4 := mask16 ((v - 32768) * 2 + 1) (by omega) (by omega)
  have t5 := mask16 ((v - 32768) * 2) (by omega) (by omega)
  have a1 : bits BinOp.and IntKind.i64 2 1 = 0 := by decide
  have a2 : bits BinOp.and IntKind.i64 2 2 = 2 := by decide
  go_enter Try.func63, Try.ntmps63
  go_wp2_with (first
    | (go_at_call 92; with_reducible refine (mask_any 16 (by decide) _).mono ?_; rintro e w1 ⟨rfl, rfl⟩)
    | (go_at_call 91; with_reducible refine (top_any 16 (by decide) _).mono ?_; rintro e w1 ⟨rfl, rfl⟩))
  go_ret
  exact ⟨congrArg (fun x => Ending.returned (Value.int .u16 x)) (by omega), rfl⟩

set_option maxRecDepth 100000 in
set_option maxHeartbeats 1000000 in
theorem turn_2_16tf (g : Nat) (v : Int) (v0 : 0 ≤ v) (v1 : v ≤ 65535) (h : 32768 ≤ v) (w : World) (kc : w.cell? ⟨g, 12, none⟩ = some (.bool false)) (kf : w.frozen? ⟨g, 12, none⟩ = false) :
    Calls Try.prog 63 #[at0 g, .int .i64 2, .int .u16 v, .int .u64 16] w fun e w' => e = .returned (.int .u16 (turnV 2 v false 16)) ∧ w' = w.setCell ⟨g, 12, none⟩ (.bool true) := by
  have ev : turnV 2 v false 16 = (v * 2) % 65536 := by
    unfold turnV turnI turnO topL flagsV
    simp [h, cb]
    try omega
  rw [ev]
  have t1 := bit1w v v0 (by omega)
  have t2 := top16 v v0 (by omega)
  rw [decide_eq_true h] at t2
  have hw : IntKind.u16.wrap (v * 2) = (v - 32768) * 2 := by
    simp only [IntKind.wrap, IntKind.bits, IntKind.signed]
    simp
    omega
  have t3 := or_even (v - 32768) (by omega) (by omega)
  have t4 := mask16 ((v - 32768) * 2 + 1) (by omega) (by omega)
  have t5 := mask16 ((v - 32768) * 2) (by omega) (by omega)
  have a1 : bits BinOp.and IntKind.i64 2 1 = 0 := by decide
  have a2 : bits BinOp.and IntKind.i64 2 2 = 2 := by decide
  go_enter Try.func63, Try.ntmps63
  go_wp2_with (first
    | (go_at_call 92; with_reducible refine (mask_any 16 (by decide) _).mono ?_; rintro e w1 ⟨rfl, rfl⟩)
    | (go_at_call 91; with_reducible refine (top_any 16 (by decide) _).mono ?_; rintro e w1 ⟨rfl, rfl⟩))
  go_ret
  exact ⟨congrArg (fun x => Ending.returned (Value.int .u16 x)) (by omega), rfl⟩

set_option maxRecDepth 100000 in
set_option maxHeartbeats 1000000 in
theorem turn_2_16ft (g : Nat) (v : Int) (v0 : 0 ≤ v) (v1 : v ≤ 65535) (h : ¬ 32768 ≤ v) (w : World) (kc : w.cell? ⟨g, 12, none⟩ = some (.bool true)) (kf : w.frozen? ⟨g, 12, none⟩ = false) :
    Calls Try.prog 63 #[at0 g, .int .i64 2, .int .u16 v, .int .u64 16] w fun e w' => e = .returned (.int .u16 (turnV 2 v true 16)) ∧ w' = w.setCell ⟨g, 12, none⟩ (.bool false) := by
  have ev : turnV 2 v true 16 = (v * 2 + 1) % 65536 := by
    unfold turnV turnI turnO topL flagsV
    simp [h, cb]
    try omega
  rw [ev]
  have t1 := bit1w v v0 (by omega)
  have t2 := top16 v v0 (by omega)
  rw [decide_eq_false h] at t2
  have t3 := or_even v (by omega) (by omega)
  have t4 := mask16 (v * 2 + 1) (by omega) (by omega)
  have t5 := mask16 (v * 2) (by omega) (by omega)
  have a1 : bits BinOp.and IntKind.i64 2 1 = 0 := by decide
  have a2 : bits BinOp.and IntKind.i64 2 2 = 2 := by decide
  go_enter Try.func63, Try.ntmps63
  go_wp2_with (first
    | (go_at_call 92; with_reducible refine (mask_any 16 (by decide) _).mono ?_; rintro e w1 ⟨rfl, rfl⟩)
    | (go_at_call 91; with_reducible refine (top_any 16 (by decide) _).mono ?_; rintro e w1 ⟨rfl, rfl⟩))
  go_ret
  exact ⟨congrArg (fun x => Ending.returned (Value.int .u16 x)) (by omega), rfl⟩

set_option maxRecDepth 100000 in
set_option maxHeartbeats 1000000 in
theorem turn_2_16ff (g : Nat) (v : Int) (v0 : 0 ≤ v) (v1 : v ≤ 65535) (h : ¬ 32768 ≤ v) (w : World) (kc : w.cell? ⟨g, 12, none⟩ = some (.bool false)) (kf : w.frozen? ⟨g, 12, none⟩ = false) :
    Calls Try.prog 63 #[at0 g, .int .i64 2, .int .u16 v, .int .u64 16] w fun e w' => e = .returned (.int .u16 (turnV 2 v false 16)) ∧ w' = w.setCell ⟨g, 12, none⟩ (.bool false) := by
  have ev : turnV 2 v false 16 = (v * 2) % 65536 := by
    unfold turnV turnI turnO topL flagsV
    simp [h, cb]
    try omega
  rw [ev]
  have t1 := bit1w v v0 (by omega)
  have t2 := top16 v v0 (by omega)
  rw [decide_eq_false h] at t2
  have t3 := or_even v (by omega) (by omega)
  have t4 := mask16 (v * 2 + 1) (by omega) (by omega)
  have t5 := mask16 (v * 2) (by omega) (by omega)
  have a1 : bits BinOp.and IntKind.i64 2 1 = 0 := by decide
  have a2 : bits BinOp.and IntKind.i64 2 2 = 2 := by decide
  go_enter Try.func63, Try.ntmps63
  go_wp2_with (first
    | (go_at_call 92; with_reducible refine (mask_any 16 (by decide) _).mono ?_; rintro e w1 ⟨rfl, rfl⟩)
    | (go_at_call 91; with_reducible refine (top_any 16 (by decide) _).mono ?_; rintro e w1 ⟨rfl, rfl⟩))
  go_ret
  exact ⟨congrArg (fun x => Ending.returned (Value.int .u16 x)) (by omega), rfl⟩

set_option maxRecDepth 100000 in
set_option maxHeartbeats 1000000 in
theorem turn_3_8tt (g : Nat) (v : Int) (v0 : 0 ≤ v) (v1 : v ≤ 255) (h : v % 2 = 1) (w : World) (kc : w.cell? ⟨g, 12, none⟩ = some (.bool true)) (kf : w.frozen? ⟨g, 12, none⟩ = false) :
    Calls Try.prog 63 #[at0 g, .int .i64 3, .int .u16 v, .int .u64 8] w fun e w' => e = .returned (.int .u16 (turnV 3 v true 8)) ∧ w' = w.setCell ⟨g, 12, none⟩ (.bool true) := by
  have ev : turnV 3 v true 8 = v / 2 + 128 := by
    unfold turnV turnI turnO topL flagsV
    simp [h, cb]
    try omega
  rw [ev]
  have t1 := bit1w v v0 (by omega)
  have t2 := odd1 v h
  have t3 := or_high (v / 2) 7 (by omega) (by omega) (by simp; omega)
  rw [show ((2 ^ 7 : Nat) : Int) = 128 from rfl] at t3
  have t4 : (v % 2) = 1 := h
  have a1 : bits BinOp.and IntKind.i64 3 1 = 1 := by decide
  have a2 : bits BinOp.and IntKind.i64 3 2 = 2 := by decide
  go_enter Try.func63, Try.ntmps63
  go_wp2_with (first
    | (go_at_call 92; with_reducible refine (mask_any 8 (by decide) _).mono ?_; rintro e w1 ⟨rfl, rfl⟩)
    | (go_at_call 91; with_reducible refine (top_any 8 (by decide) _).mono ?_; rintro e w1 ⟨rfl, rfl⟩))
  go_ret
  exact ⟨congrArg (fun x => Ending.returned (Value.int .u16 x)) (by omega), rfl⟩

set_option maxRecDepth 100000 in
set_option maxHeartbeats 1000000 in
theorem turn_3_8tf (g : Nat) (v : Int) (v0 : 0 ≤ v) (v1 : v ≤ 255) (h : v % 2 = 1) (w : World) (kc : w.cell? ⟨g, 12, none⟩ = some (.bool false)) (kf : w.frozen? ⟨g, 12, none⟩ = false) :
    Calls Try.prog 63 #[at0 g, .int .i64 3, .int .u16 v, .int .u64 8] w fun e w' => e = .returned (.int .u16 (turnV 3 v false 8)) ∧ w' = w.setCell ⟨g, 12, none⟩ (.bool true) := by
  have ev : turnV 3 v false 8 = v / 2 := by
    unfold turnV turnI turnO topL flagsV
    simp [h, cb]
    try omega
  rw [ev]
  have t1 := bit1w v v0 (by omega)
  have t2 := odd1 v h
  have t3 := or_high (v / 2) 7 (by omega) (by omega) (by simp; omega)
  rw [show ((2 ^ 7 : Nat) : Int) = 128 from rfl] at t3
  have t4 : (v % 2) = 1 := h
  have a1 : bits BinOp.and IntKind.i64 3 1 = 1 := by decide
  have a2 : bits BinOp.and IntKind.i64 3 2 = 2 := by decide
  go_enter Try.func63, Try.ntmps63
  go_wp2_with (first
    | (go_at_call 92; with_reducible refine (mask_any 8 (by decide) _).mono ?_; rintro e w1 ⟨rfl, rfl⟩)
    | (go_at_call 91; with_reducible refine (top_any 8 (by decide) _).mono ?_; rintro e w1 ⟨rfl, rfl⟩))
  go_ret
  exact ⟨congrArg (fun x => Ending.returned (Value.int .u16 x)) (by omega), rfl⟩

set_option maxRecDepth 100000 in
set_option maxHeartbeats 1000000 in
theorem turn_3_8ft (g : Nat) (v : Int) (v0 : 0 ≤ v) (v1 : v ≤ 255) (h : ¬ v % 2 = 1) (w : World) (kc : w.cell? ⟨g, 12, none⟩ = some (.bool true)) (kf : w.frozen? ⟨g, 12, none⟩ = false) :
    Calls Try.prog 63 #[at0 g, .int .i64 3, .int .u16 v, .int .u64 8] w fun e w' => e = .returned (.int .u16 (turnV 3 v true 8)) ∧ w' = w.setCell ⟨g, 12, none⟩ (.bool false) := by
  have ev : turnV 3 v true 8 = v / 2 + 128 := by
    unfold turnV turnI turnO topL flagsV
    simp [h, cb]
    try omega
  rw [ev]
  have t1 := bit1w v v0 (by omega)
  have t2 := even1 v h
  have t3 := or_high (v / 2) 7 (by omega) (by omega) (by simp; omega)
  rw [show ((2 ^ 7 : Nat) : Int) = 128 from rfl] at t3
  have t4 : (v % 2) = 0 := by omega
  have a1 : bits BinOp.and IntKind.i64 3 1 = 1 := by decide
  have a2 : bits BinOp.and IntKind.i64 3 2 = 2 := by decide
  go_enter Try.func63, Try.ntmps63
  go_wp2_with (first
    | (go_at_call 92; with_reducible refine (mask_any 8 (by decide) _).mono ?_; rintro e w1 ⟨rfl, rfl⟩)
    | (go_at_call 91; with_reducible refine (top_any 8 (by decide) _).mono ?_; rintro e w1 ⟨rfl, rfl⟩))
  go_ret
  exact ⟨congrArg (fun x => Ending.returned (Value.int .u16 x)) (by omega), rfl⟩

set_option maxRecDepth 100000 in
set_option maxHeartbeats 1000000 in
theorem turn_3_8ff (g : Nat) (v : Int) (v0 : 0 ≤ v) (v1 : v ≤ 255) (h : ¬ v % 2 = 1) (w : World) (kc : w.cell? ⟨g, 12, none⟩ = some (.bool false)) (kf : w.frozen? ⟨g, 12, none⟩ = false) :
    Calls Try.prog 63 #[at0 g, .int .i64 3, .int .u16 v, .int .u64 8] w fun e w' => e = .returned (.int .u16 (turnV 3 v false 8)) ∧ w' = w.setCell ⟨g, 12, none⟩ (.bool false) := by
  have ev : turnV 3 v false 8 = v / 2 := by
    unfold turnV turnI turnO topL flagsV
    simp [h, cb]
    try omega
  rw [ev]
  have t1 := bit1w v v0 (by omega)
  have t2 := even1 v h
  have t3 := or_high (v / 2) 7 (by omega) (by omega) (by simp; omega)
  rw [show ((2 ^ 7 : Nat) : Int) = 128 from rfl] at t3
  have t4 : (v % 2) = 0 := by omega
  have a1 : bits BinOp.and IntKind.i64 3 1 = 1 := by decide
  have a2 : bits BinOp.and IntKind.i64 3 2 = 2 := by decide
  go_enter Try.func63, Try.ntmps63
  go_wp2_with (first
    | (go_at_call 92; with_reducible refine (mask_any 8 (by decide) _).mono ?_; rintro e w1 ⟨rfl, rfl⟩)
    | (go_at_call 91; with_reducible refine (top_any 8 (by decide) _).mono ?_; rintro e w1 ⟨rfl, rfl⟩))
  go_ret
  exact ⟨congrArg (fun x => Ending.returned (Value.int .u16 x)) (by omega), rfl⟩

set_option maxRecDepth 100000 in
set_option maxHeartbeats 1000000 in
theorem turn_3_16tt (g : Nat) (v : Int) (v0 : 0 ≤ v) (v1 : v ≤ 65535) (h : v % 2 = 1) (w : World) (kc : w.cell? ⟨g, 12, none⟩ = some (.bool true)) (kf : w.frozen? ⟨g, 12, none⟩ = false) :
    Calls Try.prog 63 #[at0 g, .int .i64 3, .int .u16 v, .int .u64 16] w fun e w' => e = .returned (.int .u16 (turnV 3 v true 16)) ∧ w' = w.setCell ⟨g, 12, none⟩ (.bool true) := by
  have ev : turnV 3 v true 16 = v / 2 + 32768 := by
    unfold turnV turnI turnO topL flagsV
    simp [h, cb]
    try omega
  rw [ev]
  have t1 := bit1w v v0 (by omega)
  have t2 := odd1 v h
  have t3 := or_high (v / 2) 15 (by omega) (by omega) (by simp; omega)
  rw [show ((2 ^ 15 : Nat) : Int) = 32768 from rfl] at t3
  have t4 : (v % 2) = 1 := h
  have a1 : bits BinOp.and IntKind.i64 3 1 = 1 := by decide
  have a2 : bits BinOp.and IntKind.i64 3 2 = 2 := by decide
  go_enter Try.func63, Try.ntmps63
  go_wp2_with (first
    | (go_at_call 92; with_reducible refine (mask_any 16 (by decide) _).mono ?_; rintro e w1 ⟨rfl, rfl⟩)
    | (go_at_call 91; with_reducible refine (top_any 16 (by decide) _).mono ?_; rintro e w1 ⟨rfl, rfl⟩))
  go_ret
  exact ⟨congrArg (fun x => Ending.returned (Value.int .u16 x)) (by omega), rfl⟩

set_option maxRecDepth 100000 in
set_option maxHeartbeats 1000000 in
theorem turn_3_16tf (g : Nat) (v : Int) (v0 : 0 ≤ v) (v1 : v ≤ 65535) (h : v % 2 = 1) (w : World) (kc : w.cell? ⟨g, 12, none⟩ = some (.bool false)) (kf : w.frozen? ⟨g, 12, none⟩ = false) :
    Calls Try.prog 63 #[at0 g, .int .i64 3, .int .u16 v, .int .u64 16] w fun e w' => e = .returned (.int .u16 (turnV 3 v false 16)) ∧ w' = w.setCell ⟨g, 12, none⟩ (.bool true) := by
  have ev : turnV 3 v false 16 = v / 2 := by
    unfold turnV turnI turnO topL flagsV
    simp [h, cb]
    try omega
  rw [ev]
  have t1 := bit1w v v0 (by omega)
  have t2 := odd1 v h
  have t3 := or_high (v / 2) 15 (by omega) (by omega) (by simp; omega)
  rw [show ((2 ^ 15 : Nat) : Int) = 32768 from rfl] at t3
  have t4 : (v % 2) = 1 := h
  have a1 : bits BinOp.and IntKind.i64 3 1 = 1 := by decide
  have a2 : bits BinOp.and IntKind.i64 3 2 = 2 := by decide
  go_enter Try.func63, Try.ntmps63
  go_wp2_with (first
    | (go_at_call 92; with_reducible refine (mask_any 16 (by decide) _).mono ?_; rintro e w1 ⟨rfl, rfl⟩)
    | (go_at_call 91; with_reducible refine (top_any 16 (by decide) _).mono ?_; rintro e w1 ⟨rfl, rfl⟩))
  go_ret
  exact ⟨congrArg (fun x => Ending.returned (Value.int .u16 x)) (by omega), rfl⟩

set_option maxRecDepth 100000 in
set_option maxHeartbeats 1000000 in
theorem turn_3_16ft (g : Nat) (v : Int) (v0 : 0 ≤ v) (v1 : v ≤ 65535) (h : ¬ v % 2 = 1) (w : World) (kc : w.cell? ⟨g, 12, none⟩ = some (.bool true)) (kf : w.frozen? ⟨g, 12, none⟩ = false) :
    Calls Try.prog 63 #[at0 g, .int .i64 3, .int .u16 v, .int .u64 16] w fun e w' => e = .returned (.int .u16 (turnV 3 v true 16)) ∧ w' = w.setCell ⟨g, 12, none⟩ (.bool false) := by
  have ev : turnV 3 v true 16 = v / 2 + 32768 := by
    unfold turnV turnI turnO topL flagsV
    simp [h, cb]
    try omega
  rw [ev]
  have t1 := bit1w v v0 (by omega)
  have t2 := even1 v h
  have t3 := or_high (v / 2) 15 (by omega) (by omega) (by simp; omega)
  rw [show ((2 ^ 15 : Nat) : Int) = 32768 from rfl] at t3
  have t4 : (v % 2) = 0 := by omega
  have a1 : bits BinOp.and IntKind.i64 3 1 = 1 := by decide
  have a2 : bits BinOp.and IntKind.i64 3 2 = 2 := by decide
  go_enter Try.func63, Try.ntmps63
  go_wp2_with (first
    | (go_at_call 92; with_reducible refine (mask_any 16 (by decide) _).mono ?_; rintro e w1 ⟨rfl, rfl⟩)
    | (go_at_call 91; with_reducible refine (top_any 16 (by decide) _).mono ?_; rintro e w1 ⟨rfl, rfl⟩))
  go_ret
  exact ⟨congrArg (fun x => Ending.returned (Value.int .u16 x)) (by omega), rfl⟩

set_option maxRecDepth 100000 in
set_option maxHeartbeats 1000000 in
theorem turn_3_16ff (g : Nat) (v : Int) (v0 : 0 ≤ v) (v1 : v ≤ 65535) (h : ¬ v % 2 = 1) (w : World) (kc : w.cell? ⟨g, 12, none⟩ = some (.bool false)) (kf : w.frozen? ⟨g, 12, none⟩ = false) :
    Calls Try.prog 63 #[at0 g, .int .i64 3, .int .u16 v, .int .u64 16] w fun e w' => e = .returned (.int .u16 (turnV 3 v false 16)) ∧ w' = w.setCell ⟨g, 12, none⟩ (.bool false) := by
  have ev : turnV 3 v false 16 = v / 2 := by
    unfold turnV turnI turnO topL flagsV
    simp [h, cb]
    try omega
  rw [ev]
  have t1 := bit1w v v0 (by omega)
  have t2 := even1 v h
  have t3 := or_high (v / 2) 15 (by omega) (by omega) (by simp; omega)
  rw [show ((2 ^ 15 : Nat) : Int) = 32768 from rfl] at t3
  have t4 : (v % 2) = 0 := by omega
  have a1 : bits BinOp.and IntKind.i64 3 1 = 1 := by decide
  have a2 : bits BinOp.and IntKind.i64 3 2 = 2 := by decide
  go_enter Try.func63, Try.ntmps63
  go_wp2_with (first
    | (go_at_call 92; with_reducible refine (mask_any 16 (by decide) _).mono ?_; rintro e w1 ⟨rfl, rfl⟩)
    | (go_at_call 91; with_reducible refine (top_any 16 (by decide) _).mono ?_; rintro e w1 ⟨rfl, rfl⟩))
  go_ret
  exact ⟨congrArg (fun x => Ending.returned (Value.int .u16 x)) (by omega), rfl⟩

theorem turn_any (g : Nat) (k v m : Int) (k0 : 0 ≤ k) (k1 : k ≤ 3) (v0 : 0 ≤ v) (v1 : v ≤ (if m = 8 then 255 else 65535)) (hm : m = 8 ∨ m = 16) (w : World) (c : Bool) (kc : w.cell? ⟨g, 12, none⟩ = some (.bool c)) (kf : w.frozen? ⟨g, 12, none⟩ = false) :
    Calls Try.prog 63 #[at0 g, .int .i64 k, .int .u16 v, .int .u64 m] w fun e w' => e = .returned (.int .u16 (turnV k v c m)) ∧ w' = w.setCell ⟨g, 12, none⟩ (.bool (turnO k v m)) := by
  have hk : k = 0 ∨ k = 1 ∨ k = 2 ∨ k = 3 := by omega
  rcases hk with rfl | rfl | rfl | rfl <;> rcases hm with rfl | rfl <;> simp at v1 <;> unfold turnO topL
  · by_cases h : 128 ≤ v
    · have e : decide (128 ≤ v) = true := by simp [h]
      simpa [e] using turn_0_8t g v v0 v1 h w c kc kf
    · have e : decide (128 ≤ v) = false := by simp [h]
      simpa [e] using turn_0_8f g v v0 v1 h w c kc kf
  · by_cases h : 32768 ≤ v
    · have e : decide (32768 ≤ v) = true := by simp [h]
      simpa [e] using turn_0_16t g v v0 v1 h w c kc kf
    · have e : decide (32768 ≤ v) = false := by simp [h]
      simpa [e] using turn_0_16f g v v0 v1 h w c kc kf
  · by_cases h : v % 2 = 1
    · have e : decide (v % 2 = 1) = true := by simp [h]
      simpa [e] using turn_1_8t g v v0 v1 h w c kc kf
    · have e : decide (v % 2 = 1) = false := by simp [h]
      simpa [e] using turn_1_8f g v v0 v1 h w c kc kf
  · by_cases h : v % 2 = 1
    · have e : decide (v % 2 = 1) = true := by simp [h]
      simpa [e] using turn_1_16t g v v0 v1 h w c kc kf
    · have e : decide (v % 2 = 1) = false := by simp [h]
      simpa [e] using turn_1_16f g v v0 v1 h w c kc kf
  · by_cases h : 128 ≤ v
    · have e : decide (128 ≤ v) = true := by simp [h]
      cases c
      · simpa [e] using turn_2_8tf g v v0 v1 h w kc kf
      · simpa [e] using turn_2_8tt g v v0 v1 h w kc kf
    · have e : decide (128 ≤ v) = false := by simp [h]
      cases c
      · simpa [e] using turn_2_8ff g v v0 v1 h w kc kf
      · simpa [e] using turn_2_8ft g v v0 v1 h w kc kf
  · by_cases h : 32768 ≤ v
    · have e : decide (32768 ≤ v) = true := by simp [h]
      cases c
      · simpa [e] using turn_2_16tf g v v0 v1 h w kc kf
      · simpa [e] using turn_2_16tt g v v0 v1 h w kc kf
    · have e : decide (32768 ≤ v) = false := by simp [h]
      cases c
      · simpa [e] using turn_2_16ff g v v0 v1 h w kc kf
      · simpa [e] using turn_2_16ft g v v0 v1 h w kc kf
  · by_cases h : v % 2 = 1
    · have e : decide (v % 2 = 1) = true := by simp [h]
      cases c
      · simpa [e] using turn_3_8tf g v v0 v1 h w kc kf
      · simpa [e] using turn_3_8tt g v v0 v1 h w kc kf
    · have e : decide (v % 2 = 1) = false := by simp [h]
      cases c
      · simpa [e] using turn_3_8ff g v v0 v1 h w kc kf
      · simpa [e] using turn_3_8ft g v v0 v1 h w kc kf
  · by_cases h : v % 2 = 1
    · have e : decide (v % 2 = 1) = true := by simp [h]
      cases c
      · simpa [e] using turn_3_16tf g v v0 v1 h w kc kf
      · simpa [e] using turn_3_16tt g v v0 v1 h w kc kf
    · have e : decide (v % 2 = 1) = false := by simp [h]
      cases c
      · simpa [e] using turn_3_16ff g v v0 v1 h w kc kf
      · simpa [e] using turn_3_16ft g v v0 v1 h w kc kf

end Go.Proofs.Ytbhkndblolegaaa
