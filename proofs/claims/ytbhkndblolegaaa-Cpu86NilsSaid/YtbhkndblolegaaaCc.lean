/- The walks of word and of the references' layer 1 that cpu86 and the laws of layer 11 reach. The walks of cpu86's small functions: byte registers, widths, flags. The walks of cpu86's flags, sums and turns. -/
import Derived.Test.YtbhkndblolegaaaKa
import Derived.LoopTactic
import Derived.BigRegion
namespace Go.Proofs.Ytbhkndblolegaaa
open Go.RowKit
set_option linter.unusedVariables false
set_option linter.unusedSimpArgs false

set_option maxRecDepth 100000 in
set_option maxHeartbeats 400000 in
theorem ones_any (n : Nat) (h : n < 256) (w : World) : Calls Try.prog 119 #[.int .u8 (n : Int)] w fun e w' => e = .returned (.int .i64 (popc n)) ∧ w = w' := by
  go_enter Try.func119, Try.ntmps119
  go_wp2
  go_ret
  refine ⟨?_, rfl⟩
  refine congrArg (fun x => Ending.returned (Value.int IntKind.i64 x)) ?_
  revert n
  decide +kernel

set_option maxHeartbeats 400000 in
theorem par_any (a : Int) (h0 : 0 ≤ a) (h1 : a ≤ 255) (w : World) :
    Calls Try.prog 111 #[.int .u8 a] w fun e w' => e = .returned (.bool (par a)) ∧ w = w' := by
  obtain ⟨n, rfl⟩ := Int.eq_ofNat_of_zero_le h0
  have hp := popc_and n
  go_enter Try.func111, Try.ntmps111
  go_wp2_with fail
  refine (ones_any n (by omega) _).mono ?_
  rintro e w' ⟨rfl, rfl⟩
  go_wp2
  go_ret
  exact ⟨rfl, rfl⟩

set_option maxHeartbeats 400000 in
theorem wof_any (a : Int) (h0 : 0 ≤ a) (h1 : a ≤ 255) (w : World) :
    Calls Try.prog 88 #[.int .u8 a] w fun e w' => e = .returned (.agg #[.bool (sgn a), .bool (a / 64 % 2 == 1), .bool (a / 16 % 2 == 1), .bool (a / 4 % 2 == 1), .bool (a % 2 == 1)]) ∧ Below w.heap.size w w' := by
  have s1 := sgn_and a h0 h1
  have s2 := b64_and a h0 h1
  have s3 := b16_and a h0 h1
  have s4 := b4_and a h0 h1
  have s5 := b1_and a h0 h1
  go_enter Try.func88, Try.ntmps88
  go_wp2
  refine bodyPost_ret ?_ rfl ⟨rfl, ?_⟩
  · simp [results, Try.results88, go_sem]
  · exact balloc (Below.refl _ _) _

set_option maxHeartbeats 400000 in
theorem psw1_any (is : Bool) (m : Int) (g : Nat) (v : Int) (w : World) (hc : w.cell? ⟨g, 0, none⟩ = some (.int .u8 v)) (hf : w.frozen? ⟨g, 0, none⟩ = false) :
    Calls Try.prog 110 #[.bool is, .int .u8 m, .pointer (some ⟨g, 0, none⟩)] w fun e w' => e = .returned (.tuple #[]) ∧ w.setCell ⟨g, 0, none⟩ (.int .u8 (orIf is v m)) = w' := by
  cases is
  · go_enter Try.func110, Try.ntmps110
    go_wp2
    go_end0
    exact ⟨rfl, setCell_self hc⟩
  · go_enter Try.func110, Try.ntmps110
    go_wp2
    go_end0
    exact ⟨rfl, rfl⟩

set_option maxHeartbeats 400000 in
theorem psw_any (s z x p c : Bool) (w : World) :
    Calls Try.prog 87 #[.agg #[.bool s, .bool z, .bool x, .bool p, .bool c]] w fun e w' => e = .returned (.int .u8 (pswV s z x p c)) ∧ Below w.heap.size w w' := by
  have hmf : ∀ (fn : Fn) (first cap : Array Value) (w : World), (Instr.makeFunc fn first cap).run Try.prog w = .ok (.func fn first cap) w := fun _ _ _ _ => rfl
  go_enter Try.func87, Try.ntmps87
  go_wp2_with fail
  refine (psw1_any s 128 _ 2 _ (by go_simp) (by go_simp)).mono ?_; rintro e w' ⟨rfl, rfl⟩
  go_wp2_with fail
  refine (psw1_any z 64 _ (orIf s 2 128) _ (by go_simp) (by go_simp)).mono ?_; rintro e w' ⟨rfl, rfl⟩
  go_wp2_with fail
  refine (psw1_any x 16 _ (orIf z (orIf s 2 128) 64) _ (by go_simp) (by go_simp)).mono ?_; rintro e w' ⟨rfl, rfl⟩
  go_wp2_with fail
  refine (psw1_any p 4 _ (orIf x (orIf z (orIf s 2 128) 64) 16) _ (by go_simp) (by go_simp)).mono ?_; rintro e w' ⟨rfl, rfl⟩
  go_wp2_with fail
  refine (psw1_any c 1 _ (orIf p (orIf x (orIf z (orIf s 2 128) 64) 16) 4) _ (by go_simp) (by go_simp)).mono ?_; rintro e w' ⟨rfl, rfl⟩
  go_wp2
  go_ret
  exact ⟨congrArg (fun x => Ending.returned (Value.int IntKind.u8 x)) (orIf_psw s z x p c), balloc (balloc (Below.refl _ _) _) _⟩

set_option maxHeartbeats 400000 in
theorem rbit_any (c : Bool) (n : Int) (w : World) : Calls Try.prog 48 #[.bool c, .int .i64 n] w fun e w' => e = .returned (.int .i64 (n * cb c)) ∧ w = w' := by
  cases c
  · go_enter Try.func48, Try.ntmps48
    go_wp2
    go_ret
    exact ⟨by simp [cb], rfl⟩
  · go_enter Try.func48, Try.ntmps48
    go_wp2
    go_ret
    exact ⟨by simp [cb], rfl⟩

theorem rbit_any' (c : Bool) (n : Int) (w : World) : Calls Try.prog 48 #[.bool c, .int .i64 n] w fun e w' => e = .returned (.int .i64 (n * cb c)) ∧ w' = w :=
  (rbit_any c n w).mono fun _ _ ⟨h1, h2⟩ => ⟨h1, h2.symm⟩

set_option maxHeartbeats 1000000 in
theorem rpar_any (a : Int) (h0 : 0 ≤ a) (h1 : a ≤ 255) (w : World) :
    Calls Try.prog 72 #[.int .u8 a] w fun e w' => e = .returned (.bool (par a)) ∧ w = w' := by
  go_enter Try.func72, Try.ntmps72
  go_wp2
  go_loop [3, 4] (fun ev i => ∃ k : Nat, k ≤ 8 ∧ i = .int .i64 k ∧ ev = .bool (parl k a)) (fun _ i => 8 - (intOf i).toNat)
  case atStart => exact ⟨0, by omega, rfl, rfl⟩
  case round =>
    obtain ⟨k, hk, rfl, rfl⟩ := hrel
    by_cases hlt : k < 8
    · have HT := Lib.hid (parl_succ k a)
      have HQ := Lib.hid (popl_test k a h0 h1)
      by_cases hq : a / 2 ^ k % 2 = 1
      · have hb : (bits BinOp.and IntKind.u8 (a / 2 ^ k) 1 == 1) = true := by rw [HQ.out]; simp [hq]
        have HE : Hid (parl (k + 1) a = !parl k a) := by have := HT.out; rw [if_pos hq] at this; exact this
        clear hq
        go_wp2
        go_round
        case rel => exact ⟨k + 1, by omega, by go_num, by rw [HE.out]⟩
        case measure => simp [intOf]; omega
      · have hb : (bits BinOp.and IntKind.u8 (a / 2 ^ k) 1 == 1) = false := by rw [HQ.out]; simpa using hq
        have HE : Hid (parl (k + 1) a = parl k a) := by have := HT.out; rw [if_neg hq] at this; exact this
        clear hq
        go_wp2
        go_round
        case rel => exact ⟨k + 1, by omega, by go_num, by rw [HE.out]⟩
        case measure => simp [intOf]; omega
    · go_wp2
      go_ret
      obtain rfl : k = 8 := by omega
      exact ⟨congrArg (fun x => Ending.returned (Value.bool x)) (parl_8 a), rfl⟩

set_option maxHeartbeats 400000 in
theorem rtold_any (n : Int) (x c : Bool) (h0 : 0 ≤ n) (h1 : n ≤ 4000) (w : World) :
   Calls Try.prog 49 #[.int .i64 n, .bool x, .bool c] w fun e w' => e = .returned (.tuple #[.int .u8 (n % 256), .agg #[.bool (sgn (n % 256)), .bool ((n % 256) == 0), .bool x, .bool (par (n % 256)), .bool c]]) ∧ Below w.heap.size w w' := by
  have ha := and255 n h0 (by omega)
  go_enter Try.func49, Try.ntmps49
  go_wp2_with fail
  refine (rpar_any _ (by omega) (by omega) _).mono ?_; rintro e w' ⟨rfl, rfl⟩
  go_wp2
  refine bodyPost_ret ?_ rfl ⟨rfl, ?_⟩
  · simp [results, Try.results49, go_sem, sgn]
  · exact balloc (Below.refl _ _) _

set_option maxHeartbeats 400000 in
theorem radd_any (a b : Int) (c : Bool) (h0 : 0 ≤ a) (h1 : a ≤ 255) (h2 : 0 ≤ b) (h3 : b ≤ 255) (w : World) :
    Calls Try.prog 32 #[.int .u8 a, .int .u8 b, .bool c] w fun e w' =>
      e = .returned (.tuple #[.int .u8 ((a + b + cb c) % 256), .agg #[.bool (sgn ((a + b + cb c) % 256)), .bool (((a + b + cb c) % 256) == 0), .bool (decide (15 < a % 16 + b % 16 + cb c)), .bool (par ((a + b + cb c) % 256)), .bool (decide (255 < a + b + cb c))]]) ∧ Below w.heap.size w w' := by
  have hd0 := cb_lo c
  have hd1 := cb_hi c
  have e1 : 1 * cb c = cb c := by omega
  go_enter Try.func32, Try.ntmps32
  go_wp2_with fail
  refine (rbit_any _ _ _).mono ?_; rintro e w' ⟨rfl, rfl⟩
  go_wp2_with fail
  refine (rbit_any _ _ _).mono ?_; rintro e w' ⟨rfl, rfl⟩
  go_wp2_with fail
  refine (rtold_any _ _ _ (by omega) (by omega) _).mono ?_; rintro e w1 ⟨rfl, hb⟩
  obtain ⟨hc, hf⟩ := bcell hb
  have k : w1.cell? ⟨w.heap.size, 0, none⟩ = some (.bool false) ∧ w1.cell? ⟨w.heap.size, 1, none⟩ = some (.bool false) ∧ w1.cell? ⟨w.heap.size, 2, none⟩ = some (.bool false) ∧ w1.cell? ⟨w.heap.size, 3, none⟩ = some (.bool false) ∧ w1.cell? ⟨w.heap.size, 4, none⟩ = some (.bool false) := by
    refine ⟨?_, ?_, ?_, ?_, ?_⟩ <;> (rw [hc _ _ (by simp)]; go_simp)
  go_wp2
  refine bodyPost_ret ?_ rfl ⟨rfl, ?_⟩
  · (simp [results, Try.results32, go_sem, k]) <;> omega
  · repeat (first | with_reducible exact Below.refl _ _ | with_reducible apply bdrew | with_reducible apply balloc | (with_reducible apply bset; focus (first | (simp; done) | (simp; omega))) | with_reducible apply bthen hb)

set_option maxHeartbeats 400000 in
theorem rsub_any0 (a b : Int) (c : Bool) (h0 : 0 ≤ a) (h1 : a ≤ 255) (h2 : 0 ≤ b) (h3 : b ≤ 255) (w : World) :
    Calls Try.prog 33 #[.int .u8 a, .int .u8 b, .bool c] w fun e w' =>
      e = .returned (.tuple #[.int .u8 ((a - b - cb c + 256) % 256), .agg #[.bool (sgn ((a - b - cb c + 256) % 256)), .bool (((a - b - cb c + 256) % 256) == 0), .bool (decide (15 < a % 16 + 15 - b % 16 + cb (!c))), .bool (par ((a - b - cb c + 256) % 256)), .bool (decide (a - b - cb c < 0))]]) ∧ Below w.heap.size w w' := by
  have hd0 := cb_lo c
  have hd1 := cb_hi c
  have hn0 := cb_lo (!c)
  have hn1 := cb_hi (!c)
  have e1 : 1 * cb c = cb c := by omega
  have e2 : 1 * cb (!c) = cb (!c) := by omega
  go_enter Try.func33, Try.ntmps33
  go_wp2_with fail
  refine (rbit_any _ _ _).mono ?_; rintro e w' ⟨rfl, rfl⟩
  go_wp2_with fail
  refine (rbit_any _ _ _).mono ?_; rintro e w' ⟨rfl, rfl⟩
  go_wp2_with fail
  refine (rtold_any _ _ _ (by omega) (by omega) _).mono ?_; rintro e w1 ⟨rfl, hb⟩
  obtain ⟨hc, hf⟩ := bcell hb
  have k : w1.cell? ⟨w.heap.size, 0, none⟩ = some (.bool false) ∧ w1.cell? ⟨w.heap.size, 1, none⟩ = some (.bool false) ∧ w1.cell? ⟨w.heap.size, 2, none⟩ = some (.bool false) ∧ w1.cell? ⟨w.heap.size, 3, none⟩ = some (.bool false) ∧ w1.cell? ⟨w.heap.size, 4, none⟩ = some (.bool false) := by
    refine ⟨?_, ?_, ?_, ?_, ?_⟩ <;> (rw [hc _ _ (by simp)]; go_simp)
  go_wp2
  refine bodyPost_ret ?_ rfl ⟨rfl, ?_⟩
  · (simp [results, Try.results33, go_sem, k]) <;> omega
  · repeat (first | with_reducible exact Below.refl _ _ | with_reducible apply bdrew | with_reducible apply balloc | (with_reducible apply bset; focus (first | (simp; done) | (simp; omega))) | with_reducible apply bthen hb)

theorem rsub_any (a b : Int) (c : Bool) (h0 : 0 ≤ a) (h1 : a ≤ 255) (h2 : 0 ≤ b) (h3 : b ≤ 255) (w : World) :
    Calls Try.prog 33 #[.int .u8 a, .int .u8 b, .bool c] w fun e w' =>
      e = .returned (.tuple #[.int .u8 ((a + (255 - b) + cb (!c)) % 256), .agg #[.bool (sgn ((a + (255 - b) + cb (!c)) % 256)), .bool (((a + (255 - b) + cb (!c)) % 256) == 0), .bool (decide (15 < a % 16 + (255 - b) % 16 + cb (!c))), .bool (par ((a + (255 - b) + cb (!c)) % 256)), .bool (!decide (255 < a + (255 - b) + cb (!c)))]]) ∧ Below w.heap.size w w' := by
  have g := rsub_any0 a b c h0 h1 h2 h3 w
  have hn := cb_not c
  have hd0 := cb_lo c
  have hd1 := cb_hi c
  have e1 : (a - b - cb c + 256) % 256 = (a + (255 - b) + cb (!c)) % 256 := by rw [hn]; congr 1; omega
  have e2 : decide (15 < a % 16 + 15 - b % 16 + cb (!c)) = decide (15 < a % 16 + (255 - b) % 16 + cb (!c)) := by congr 1; apply propext; omega
  have e3 : decide (a - b - cb c < 0) = !decide (255 < a + (255 - b) + cb (!c)) := by
    rw [hn, ← decide_not]; congr 1; apply propext; omega
  rw [e1, e2, e3] at g
  exact g

set_option maxHeartbeats 400000 in
theorem rof_any (a : Int) (h0 : 0 ≤ a) (h1 : a ≤ 255) (w : World) :
    Calls Try.prog 117 #[.int .u8 a] w fun e w' => e = .returned (.agg #[.bool (sgn a), .bool (a / 64 % 2 == 1), .bool (a / 16 % 2 == 1), .bool (a / 4 % 2 == 1), .bool (a % 2 == 1)]) ∧ Below w.heap.size w w' := by
  go_enter Try.func117, Try.ntmps117
  go_wp2
  refine bodyPost_ret ?_ rfl ⟨rfl, ?_⟩
  · simp [results, Try.results117, go_sem, sgn]
  · exact balloc (Below.refl _ _) _

set_option maxHeartbeats 400000 in
theorem rpsw_any (s z x p c : Bool) (w : World) :
    Calls Try.prog 37 #[.agg #[.bool s, .bool z, .bool x, .bool p, .bool c]] w fun e w' => e = .returned (.int .u8 (pswV s z x p c)) ∧ Below w.heap.size w w' := by
  have b1 := cb_lo s
  have b2 := cb_hi s
  have b3 := cb_lo z
  have b4 := cb_hi z
  have b5 := cb_lo x
  have b6 := cb_hi x
  have b7 := cb_lo p
  have b8 := cb_hi p
  have b9 := cb_lo c
  have b0 := cb_hi c
  go_enter Try.func37, Try.ntmps37
  go_wp2_with fail
  go_quiet ((go_at_call 48; exact Calls.quiet_of_same (rbit_any' _ _ _)))
  go_wp2
  go_ret
  exact ⟨rfl, bdrewN (balloc (Below.refl _ _) _) _⟩

set_option maxHeartbeats 400000 in
theorem back_any (s z x p c : Bool) (w : World) :
    Calls Try.prog 34 #[.agg #[.bool s, .bool z, .bool x, .bool p, .bool c]] w fun e w' => e = .returned (.agg #[.bool s, .bool z, .bool x, .bool p, .bool c]) ∧ Below w.heap.size w w' := by
  go_enter Try.func34, Try.ntmps34
  go_wp2
  refine bodyPost_ret ?_ rfl ⟨rfl, ?_⟩
  · simp [results, Try.results34, go_sem]
  · exact balloc (balloc (Below.refl _ _) _) _

set_option maxHeartbeats 400000 in
theorem own_any (s z x p c : Bool) (w : World) :
    Calls Try.prog 38 #[.agg #[.bool s, .bool z, .bool x, .bool p, .bool c]] w fun e w' => e = .returned (.agg #[.bool s, .bool z, .bool x, .bool p, .bool c]) ∧ Below w.heap.size w w' := by
  go_enter Try.func38, Try.ntmps38
  go_wp2
  refine bodyPost_ret ?_ rfl ⟨rfl, ?_⟩
  · simp [results, Try.results38, go_sem]
  · exact balloc (balloc (Below.refl _ _) _) _

end Go.Proofs.Ytbhkndblolegaaa

namespace Go.Proofs.Ytbhkndblolegaaa
open Go.RowKit
set_option linter.unusedVariables false
set_option linter.unusedSimpArgs false

theorem ands3 : bits BinOp.and IntKind.i64 0 3 = 0 ∧ bits BinOp.and IntKind.i64 1 3 = 1 ∧ bits BinOp.and IntKind.i64 2 3 = 2 ∧ bits BinOp.and IntKind.i64 3 3 = 3 ∧ bits BinOp.and IntKind.i64 4 3 = 0 ∧ bits BinOp.and IntKind.i64 5 3 = 1 ∧ bits BinOp.and IntKind.i64 6 3 = 2 ∧ bits BinOp.and IntKind.i64 7 3 = 3 := by decide
theorem eight {i : Int} (h0 : 0 ≤ i) (h1 : i ≤ 7) : i = 0 ∨ i = 1 ∨ i = 2 ∨ i = 3 ∨ i = 4 ∨ i = 5 ∨ i = 6 ∨ i = 7 := by omega
theorem Rg.Ok.bounds {r : Rg} (h : r.Ok) : (0 ≤ r.R 0 ∧ 0 ≤ r.R 1 ∧ 0 ≤ r.R 2 ∧ 0 ≤ r.R 3 ∧ 0 ≤ r.R 4 ∧ 0 ≤ r.R 5 ∧ 0 ≤ r.R 6 ∧ 0 ≤ r.R 7) ∧ (r.R 0 ≤ 65535 ∧ r.R 1 ≤ 65535 ∧ r.R 2 ≤ 65535 ∧ r.R 3 ≤ 65535 ∧ r.R 4 ≤ 65535 ∧ r.R 5 ≤ 65535 ∧ r.R 6 ≤ 65535 ∧ r.R 7 ≤ 65535) :=
  ⟨⟨h.lo 0, h.lo 1, h.lo 2, h.lo 3, h.lo 4, h.lo 5, h.lo 6, h.lo 7⟩, ⟨h.hi 0, h.hi 1, h.hi 2, h.hi 3, h.hi 4, h.hi 5, h.hi 6, h.hi 7⟩⟩

theorem Low_any (g : Nat) (r : Rg) (hr : r.Ok) (vi vo vc vd : Value) (i : Int) (h0 : 0 ≤ i) (h1 : i ≤ 7) (w : World) (h : Mach w g r vi vo vc vd) :
    Calls Try.prog 20 #[at0 g, .int .i64 i] w fun e w' => e = .returned (.int .u8 (lowL r i.toNat)) ∧ w' = w := by
  obtain ⟨k0, k1, k2, k3, k4, k5, k6, k7, _, _, _, _, _, _, _, _, _, _, _, _⟩ := mach_cells h
  obtain ⟨⟨a0, a1, a2, a3, _⟩, ⟨b0, b1, b2, b3, _⟩⟩ := hr.bounds
  obtain ⟨e0, e1, e2, e3, e4, e5, e6, e7⟩ := ands3
  clear h hr
  rcases eight h0 h1 with rfl | rfl | rfl | rfl | rfl | rfl | rfl | rfl <;> clear h0 h1 <;>
  · go_enter Try.func20, Try.ntmps20
    go_wp2
    go_ret
    exact ⟨rfl, rfl⟩
theorem Low_lo (p : Option Addr) (i : Int) (h0 : i < 0) (w : World) : Calls Try.prog 20 #[.pointer p, .int .i64 i] w fun e w' => e = .returned (.int .u8 0) ∧ w' = w := by
  cases p <;>
  · go_enter Try.func20, Try.ntmps20
    go_wp2
    go_ret
    exact ⟨rfl, rfl⟩
theorem Low_hi (p : Option Addr) (i : Int) (h0 : 7 < i) (w : World) : Calls Try.prog 20 #[.pointer p, .int .i64 i] w fun e w' => e = .returned (.int .u8 0) ∧ w' = w := by
  cases p <;>
  · go_enter Try.func20, Try.ntmps20
    go_wp2
    go_ret
    exact ⟨rfl, rfl⟩
theorem Low_nil (i : Int) (w : World) : Calls Try.prog 20 #[.pointer none, .int .i64 i] w fun e w' => e = .returned (.int .u8 0) ∧ w' = w := by
  go_enter Try.func20, Try.ntmps20
  go_wp2
  go_ret
  exact ⟨rfl, rfl⟩

theorem mask_any (n : Int) (hn : n = 8 ∨ n = 16) (w : World) : Calls Try.prog 92 #[.int .u64 n] w fun e w' => e = .returned (.int .u16 (if n = 8 then 255 else 65535)) ∧ w' = w := by
  rcases hn with rfl | rfl <;>
  · go_enter Try.func92, Try.ntmps92
    go_wp2
    go_ret
    exact ⟨rfl, rfl⟩
theorem top_any (n : Int) (hn : n = 8 ∨ n = 16) (w : World) : Calls Try.prog 91 #[.int .u64 n] w fun e w' => e = .returned (.int .u16 (if n = 8 then 128 else 32768)) ∧ w' = w := by
  rcases hn with rfl | rfl <;>
  · go_enter Try.func91, Try.ntmps91
    go_wp2
    go_ret
    exact ⟨rfl, rfl⟩

end Go.Proofs.Ytbhkndblolegaaa

namespace Go.Proofs.Ytbhkndblolegaaa
open Go.RowKit
set_option linter.unusedVariables false
set_option linter.unusedSimpArgs false

abbrev one (g : Nat) : Nat → Prop := fun k => k = g
set_option maxHeartbeats 1000000 in
set_option maxRecDepth 100000 in
theorem flags_8 (n : Int) (aux : Bool) (h0 : 0 ≤ n) (h1 : n ≤ 4294967295) (w : World) :
    Calls Try.prog 90 #[.int .u64 8, .int .u32 n, .bool aux] w fun e w' => e = .returned (.tuple #[.int .u16 (flagsV 8 n), (flagsF 8 n aux).val]) ∧ Below w.heap.size w w' := by
  have hm := mask8 (n % 65536) (by omega) (by omega)
  have e1 : n % 65536 % 256 = n % 256 := by omega
  rw [e1] at hm
  have ht := top8 (n % 256) (by omega) (by omega)
  have hb := bit1 (n / 256) (by omega) (by omega)
  have hw : IntKind.u16.wrap n = n % 65536 := by simp [IntKind.wrap, IntKind.bits, IntKind.signed]
  have e2 : n % 256 % 256 = n % 256 := by omega
  go_enter Try.func90, Try.ntmps90
  go_wp2_with (first
    | (go_at_call 92; with_reducible refine (mask_any 8 (.inl rfl) _).mono ?_; rintro e w1 ⟨rfl, rfl⟩)
    | (go_at_call 91; with_reducible refine (top_any 8 (.inl rfl) _).mono ?_; rintro e w1 ⟨rfl, rfl⟩)
    | (go_at_call 111; with_reducible refine (par_any (n % 256) (by omega) (by omega) _).mono ?_; rintro e w1 ⟨rfl, rfl⟩))
  refine bodyPost_ret ?_ rfl ⟨rfl, ?_⟩
  · simp [results, Try.results90, go_sem, flagsV, flagsF, Fl.val]
  · exact balloc (Below.refl _ _) _

set_option maxHeartbeats 1000000 in
set_option maxRecDepth 100000 in
theorem flags_16 (n : Int) (aux : Bool) (h0 : 0 ≤ n) (h1 : n ≤ 4294967295) (w : World) :
    Calls Try.prog 90 #[.int .u64 16, .int .u32 n, .bool aux] w fun e w' => e = .returned (.tuple #[.int .u16 (flagsV 16 n), (flagsF 16 n aux).val]) ∧ Below w.heap.size w w' := by
  have hm := mask16 (n % 65536) (by omega) (by omega)
  have e1 : n % 65536 % 256 = n % 256 := by omega
  have ht := top16 (n % 65536) (by omega) (by omega)
  have hb := bit1 (n / 65536) (by omega) (by omega)
  have hw : IntKind.u16.wrap n = n % 65536 := by simp [IntKind.wrap, IntKind.bits, IntKind.signed]
  have e2 : n % 256 % 256 = n % 256 := by omega
  go_enter Try.func90, Try.ntmps90
  go_wp2_with (first
    | (go_at_call 92; with_reducible refine (mask_any 16 (.inr rfl) _).mono ?_; rintro e w1 ⟨rfl, rfl⟩)
    | (go_at_call 91; with_reducible refine (top_any 16 (.inr rfl) _).mono ?_; rintro e w1 ⟨rfl, rfl⟩)
    | (go_at_call 111; with_reducible refine (par_any (n % 256) (by omega) (by omega) _).mono ?_; rintro e w1 ⟨rfl, rfl⟩))
  refine bodyPost_ret ?_ rfl ⟨rfl, ?_⟩
  · simp [results, Try.results90, go_sem, flagsV, flagsF, Fl.val]
  · exact balloc (Below.refl _ _) _

theorem flags_any (m n : Int) (aux : Bool) (hm : m = 8 ∨ m = 16) (h0 : 0 ≤ n) (h1 : n ≤ 4294967295) (w : World) :
    Calls Try.prog 90 #[.int .u64 m, .int .u32 n, .bool aux] w fun e w' => e = .returned (.tuple #[.int .u16 (flagsV m n), (flagsF m n aux).val]) ∧ Below w.heap.size w w' := by
  rcases hm with rfl | rfl
  · exact flags_8 n aux h0 h1 w
  · exact flags_16 n aux h0 h1 w

end Go.Proofs.Ytbhkndblolegaaa
