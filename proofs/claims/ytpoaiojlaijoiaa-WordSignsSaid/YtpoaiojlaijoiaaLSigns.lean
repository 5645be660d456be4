/- The walk of the law WordSigns: whatever comes in, the law returns true, and nothing that was there has changed. -/
import Derived.Test.YtpoaiojlaijoiaaLa
import Derived.Deep.RegionHeld3
namespace Go.Proofs.Ytpoaiojlaijoiaa
open Go.RowKit
set_option linter.unusedVariables false
set_option linter.unusedSimpArgs false

theorem add_one (a b : Int) (c : Bool) (h0 : 0 ≤ a) (h1 : a ≤ 255) (h2 : 0 ≤ b) (h3 : b ≤ 255) : ∃ (V : Int) (X C : Bool), 0 ≤ V ∧ V ≤ 255 ∧
    (∀ w, Calls Try.prog 13 #[.int .u8 a, .int .u8 b, .bool c] w fun e w' => e = .returned (.tuple #[.int .u8 V, .agg #[.bool (sgn V), .bool (V == 0), .bool X, .bool (par V), .bool C]]) ∧ Below w.heap.size w w') :=
  ⟨_, _, _, by omega, by omega, fun w => add_any a b c h0 h1 h2 h3 w⟩

theorem sub_one (a b : Int) (c : Bool) (h0 : 0 ≤ a) (h1 : a ≤ 255) (h2 : 0 ≤ b) (h3 : b ≤ 255) : ∃ (V : Int) (X C : Bool), 0 ≤ V ∧ V ≤ 255 ∧
    (∀ w, Calls Try.prog 24 #[.int .u8 a, .int .u8 b, .bool c] w fun e w' => e = .returned (.tuple #[.int .u8 V, .agg #[.bool (sgn V), .bool (V == 0), .bool X, .bool (par V), .bool C]]) ∧ Below w.heap.size w w') :=
  ⟨_, _, _, by omega, by omega, fun w => sub_any a b c h0 h1 h2 h3 w⟩

theorem and_one (a b : Int) (h0 : 0 ≤ a) (h1 : a ≤ 255) (h2 : 0 ≤ b) (h3 : b ≤ 255) : ∃ (V : Int) (X : Bool), 0 ≤ V ∧ V ≤ 255 ∧
    (∀ w, Calls Try.prog 15 #[.int .u8 a, .int .u8 b] w fun e w' => e = .returned (.tuple #[.int .u8 V, .agg #[.bool (sgn V), .bool (V == 0), .bool X, .bool (par V), .bool false]]) ∧ Below w.heap.size w w') :=
  ⟨_, _, bits_lo_u8 .and a b, bits_hi_u8 .and a b, fun w => and_any a b h0 h1 h2 h3 w⟩

theorem or_one (a b : Int) (h0 : 0 ≤ a) (h1 : a ≤ 255) (h2 : 0 ≤ b) (h3 : b ≤ 255) : ∃ (V : Int), 0 ≤ V ∧ V ≤ 255 ∧
    (∀ w, Calls Try.prog 16 #[.int .u8 a, .int .u8 b] w fun e w' => e = .returned (.tuple #[.int .u8 V, .agg #[.bool (sgn V), .bool (V == 0), .bool false, .bool (par V), .bool false]]) ∧ Below w.heap.size w w') :=
  ⟨_, bits_lo_u8 .or a b, bits_hi_u8 .or a b, fun w => or_any a b w⟩

theorem xor_one (a b : Int) (h0 : 0 ≤ a) (h1 : a ≤ 255) (h2 : 0 ≤ b) (h3 : b ≤ 255) : ∃ (V : Int), 0 ≤ V ∧ V ≤ 255 ∧
    (∀ w, Calls Try.prog 17 #[.int .u8 a, .int .u8 b] w fun e w' => e = .returned (.tuple #[.int .u8 V, .agg #[.bool (sgn V), .bool (V == 0), .bool false, .bool (par V), .bool false]]) ∧ Below w.heap.size w w') :=
  ⟨_, bits_lo_u8 .xor a b, bits_hi_u8 .xor a b, fun w => xor_any a b w⟩

theorem par_any' (a : Int) (h0 : 0 ≤ a) (h1 : a ≤ 255) (w : World) : Calls Try.prog 37 #[.int .u8 a] w fun e w' => e = .returned (.bool (par a)) ∧ w' = w :=
  (par_any a h0 h1 w).mono fun _ _ ⟨h1, h2⟩ => ⟨h1, h2.symm⟩

set_option maxHeartbeats 400000 in
theorem signs_any (b : Int) (x c : Bool) (h0 : 0 ≤ b) (h1 : b ≤ 255) (w : World) :
    Calls Try.prog 26 #[.int .u8 b, .agg #[.bool (sgn b), .bool (b == 0), .bool x, .bool (par b), .bool c]] w fun e w' => e = .returned (.bool true) ∧ Below w.heap.size w w' := by
  have hs : decide (128 ≤ b) = sgn b := rfl
  go_enter Try.func26, Try.ntmps26
  go_wp2_with fail
  go_quiet ((go_at_call 37; exact Calls.quiet_of_same (par_any' _ h0 h1 _)))
  go_wp2
  go_ret
  exact ⟨rfl, bdrewN (balloc (Below.refl _ _) _) _⟩

set_option maxHeartbeats 2000000 in
theorem wordSigns_any (a b : Int) (c : Bool) (h0 : 0 ≤ a) (h1 : a ≤ 255) (h2 : 0 ≤ b) (h3 : b ≤ 255) (w : World) :
    Calls Try.prog 7 #[.int .u8 a, .int .u8 b, .bool c] w fun e w' => e = .returned (.bool true) ∧ Below w.heap.size w w' := by
  obtain ⟨V1, X1, C1, l1, m1, q1⟩ := add_one a b c h0 h1 h2 h3
  obtain ⟨V2, X2, C2, l2, m2, q2⟩ := sub_one a b c h0 h1 h2 h3
  obtain ⟨V3, X3, l3, m3, q3⟩ := and_one a b h0 h1 h2 h3
  obtain ⟨V4, l4, m4, q4⟩ := or_one a b h0 h1 h2 h3
  obtain ⟨V5, l5, m5, q5⟩ := xor_one a b h0 h1 h2 h3
  have Q1 := Lib.hid q1
  have Q2 := Lib.hid q2
  have Q3 := Lib.hid q3
  have Q4 := Lib.hid q4
  have Q5 := Lib.hid q5
  clear q1 q2 q3 q4 q5
  go_enter Try.func7, Try.ntmps7
  go_wp2_with fail
  refine (Q1.out _).mono ?_; rintro e w1 ⟨rfl, hb1⟩
  go_wp2_with fail
  refine (Q2.out _).mono ?_; rintro e w2 ⟨rfl, hb2⟩
  have o0 := (own_new _ _ _).below hb2
  go_wp2_with fail
  refine (Q3.out _).mono ?_; rintro e w3 ⟨rfl, hb3⟩
  have o0 := (o0.alloc _).below hb3
  have o1 := (own_new _ _ _).below hb3
  go_wp2_with fail
  refine (Q4.out _).mono ?_; rintro e w4 ⟨rfl, hb4⟩
  have o0 := (o0.alloc _).below hb4
  have o1 := (o1.alloc _).below hb4
  have o2 := (own_new _ _ _).below hb4
  go_wp2_with fail
  refine (Q5.out _).mono ?_; rintro e w5 ⟨rfl, hb5⟩
  have o0 := (o0.alloc _).below hb5
  have o1 := (o1.alloc _).below hb5
  have o2 := (o2.alloc _).below hb5
  have o3 := (own_new _ _ _).below hb5
  have o0 := o0.alloc (Obj.cells #[Value.bool (sgn V5), Value.bool (V5 == 0), Value.bool false, Value.bool (par V5), Value.bool false] 24)
  have o1 := o1.alloc (Obj.cells #[Value.bool (sgn V5), Value.bool (V5 == 0), Value.bool false, Value.bool (par V5), Value.bool false] 24)
  have o2 := o2.alloc (Obj.cells #[Value.bool (sgn V5), Value.bool (V5 == 0), Value.bool false, Value.bool (par V5), Value.bool false] 24)
  have o3 := o3.alloc (Obj.cells #[Value.bool (sgn V5), Value.bool (V5 == 0), Value.bool false, Value.bool (par V5), Value.bool false] 24)
  have o4 := own_new w5 #[Value.bool (sgn V5), Value.bool (V5 == 0), Value.bool false, Value.bool (par V5), Value.bool false] 24
  have co0 := o0.five
  have co1 := o1.five
  have co2 := o2.five
  have co3 := o3.five
  have co4 := o4.five
  go_wp2_with fail
  refine (signs_any V1 X1 C1 (by assumption) (by assumption) _).mono ?_; rintro e w6 ⟨rfl, hb6⟩
  clear co0 co1 co2 co3 co4
  have o0 := o0.below hb6
  have co0 := o0.five
  have o1 := o1.below hb6
  have co1 := o1.five
  have o2 := o2.below hb6
  have co2 := o2.five
  have o3 := o3.below hb6
  have co3 := o3.five
  have o4 := o4.below hb6
  have co4 := o4.five
  go_wp2_with fail
  refine (signs_any V2 X2 C2 (by assumption) (by assumption) _).mono ?_; rintro e w7 ⟨rfl, hb7⟩
  clear co0 co1 co2 co3 co4
  have o0 := o0.below hb7
  have co0 := o0.five
  have o1 := o1.below hb7
  have co1 := o1.five
  have o2 := o2.below hb7
  have co2 := o2.five
  have o3 := o3.below hb7
  have co3 := o3.five
  have o4 := o4.below hb7
  have co4 := o4.five
  go_wp2_with fail
  refine (signs_any V3 X3 false (by assumption) (by assumption) _).mono ?_; rintro e w8 ⟨rfl, hb8⟩
  clear co0 co1 co2 co3 co4
  have o0 := o0.below hb8
  have co0 := o0.five
  have o1 := o1.below hb8
  have co1 := o1.five
  have o2 := o2.below hb8
  have co2 := o2.five
  have o3 := o3.below hb8
  have co3 := o3.five
  have o4 := o4.below hb8
  have co4 := o4.five
  go_wp2_with fail
  refine (signs_any V4 false false (by assumption) (by assumption) _).mono ?_; rintro e w9 ⟨rfl, hb9⟩
  clear co0 co1 co2 co3 co4
  have o0 := o0.below hb9
  have co0 := o0.five
  have o1 := o1.below hb9
  have co1 := o1.five
  have o2 := o2.below hb9
  have co2 := o2.five
  have o3 := o3.below hb9
  have co3 := o3.five
  have o4 := o4.below hb9
  have co4 := o4.five
  go_wp2_with fail
  refine (signs_any V5 false false (by assumption) (by assumption) _).mono ?_; rintro e w10 ⟨rfl, hb10⟩
  clear co0 co1 co2 co3 co4
  have o0 := o0.below hb10
  have co0 := o0.five
  have o1 := o1.below hb10
  have co1 := o1.five
  have o2 := o2.below hb10
  have co2 := o2.five
  have o3 := o3.below hb10
  have co3 := o3.five
  have o4 := o4.below hb10
  have co4 := o4.five
  go_wp2_with fail
  refine (alive_any _).mono ?_; rintro e w11 ⟨rfl, hb11⟩
  clear co0 co1 co2 co3 co4
  have o0 := o0.below hb11
  have co0 := o0.five
  have o1 := o1.below hb11
  have co1 := o1.five
  have o2 := o2.below hb11
  have co2 := o2.five
  have o3 := o3.below hb11
  have co3 := o3.five
  have o4 := o4.below hb11
  have co4 := o4.five
  go_wp2
  go_ret
  exact ⟨rfl, by
    repeat (first | with_reducible exact Below.refl _ _ | with_reducible apply bdrew | with_reducible apply bdrewN | with_reducible apply balloc | (with_reducible apply bset; focus (first | (simp; done) | (simp; omega))) | (with_reducible apply bthen; focus (with_reducible assumption)))⟩

end Go.Proofs.Ytpoaiojlaijoiaa
