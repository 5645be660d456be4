/- The walk of the law WordSteps: whatever comes in, the law returns true, and nothing that was there has changed. -/
import Derived.Test.YtpoaiojlaijoiaaLa
import Derived.Deep.RegionHeld3
namespace Go.Proofs.Ytpoaiojlaijoiaa
open Go.RowKit
set_option linter.unusedVariables false
set_option linter.unusedSimpArgs false

theorem inc_pair (a : Int) (fs fz fx fp fc : Bool) (h0 : 0 ≤ a) (h1 : a ≤ 255) : ∃ (V : Int) (s z x p k : Bool),
    (∀ w, Calls Try.prog 27 #[.int .u8 a, .agg #[.bool fs, .bool fz, .bool fx, .bool fp, .bool fc]] w fun e w' => e = .returned (.tuple #[.int .u8 V, .agg #[.bool s, .bool z, .bool x, .bool p, .bool k]]) ∧ Below w.heap.size w w') ∧
    (∀ w, Calls Try.prog 30 #[.int .u8 a, .agg #[.bool fs, .bool fz, .bool fx, .bool fp, .bool fc]] w fun e w' => e = .returned (.tuple #[.int .u8 V, .agg #[.bool s, .bool z, .bool x, .bool p, .bool k]]) ∧ Below w.heap.size w w') :=
  ⟨_, _, _, _, _, _, fun w => inc_any a fs fz fx fp fc h0 h1 w, fun w => rinc_any a fs fz fx fp fc h0 h1 w⟩

theorem dec_pair (a : Int) (fs fz fx fp fc : Bool) (h0 : 0 ≤ a) (h1 : a ≤ 255) : ∃ (V : Int) (s z x p k : Bool),
    (∀ w, Calls Try.prog 29 #[.int .u8 a, .agg #[.bool fs, .bool fz, .bool fx, .bool fp, .bool fc]] w fun e w' => e = .returned (.tuple #[.int .u8 V, .agg #[.bool s, .bool z, .bool x, .bool p, .bool k]]) ∧ Below w.heap.size w w') ∧
    (∀ w, Calls Try.prog 31 #[.int .u8 a, .agg #[.bool fs, .bool fz, .bool fx, .bool fp, .bool fc]] w fun e w' => e = .returned (.tuple #[.int .u8 V, .agg #[.bool s, .bool z, .bool x, .bool p, .bool k]]) ∧ Below w.heap.size w w') :=
  ⟨_, _, _, _, _, _, fun w => dec_any a fs fz fx fp fc h0 h1 w, fun w => rdec_any a fs fz fx fp fc h0 h1 w⟩

theorem daa_pair (a : Int) (fs fz fx fp fc : Bool) (h0 : 0 ≤ a) (h1 : a ≤ 255) : ∃ (V : Int) (s z x p k : Bool),
    (∀ w, Calls Try.prog 14 #[.int .u8 a, .agg #[.bool fs, .bool fz, .bool fx, .bool fp, .bool fc]] w fun e w' => e = .returned (.tuple #[.int .u8 V, .agg #[.bool s, .bool z, .bool x, .bool p, .bool k]]) ∧ Below w.heap.size w w') ∧
    (∀ w, Calls Try.prog 32 #[.int .u8 a, .agg #[.bool fs, .bool fz, .bool fx, .bool fp, .bool fc]] w fun e w' => e = .returned (.tuple #[.int .u8 V, .agg #[.bool s, .bool z, .bool x, .bool p, .bool k]]) ∧ Below w.heap.size w w') :=
  ⟨_, _, _, _, _, _, fun w => daa_any a fs fz fx fp fc h0 h1 w, fun w => rdaa_any a fs fz fx fp fc h0 h1 w⟩

set_option maxHeartbeats 2000000 in
theorem wordSteps_any (a : Int) (fs fz fx fp fc : Bool) (h0 : 0 ≤ a) (h1 : a ≤ 255) (w : World) :
    Calls Try.prog 8 #[.int .u8 a, .agg #[.bool fs, .bool fz, .bool fx, .bool fp, .bool fc]] w fun e w' => e = .returned (.bool true) ∧ Below w.heap.size w w' := by
  obtain ⟨V, s, z, x, p, k, q1, q2⟩ := inc_pair a fs fz fx fp fc h0 h1
  obtain ⟨V', s', z', x', p', k', q3, q4⟩ := dec_pair a fs fz fx fp fc h0 h1
  obtain ⟨V'', s'', z'', x'', p'', k'', q5, q6⟩ := daa_pair a fs fz fx fp fc h0 h1
  have Q1 := Lib.hid q1
  have Q2 := Lib.hid q2
  have Q3 := Lib.hid q3
  have Q4 := Lib.hid q4
  have Q5 := Lib.hid q5
  have Q6 := Lib.hid q6
  clear q1 q2 q3 q4 q5 q6
  go_enter Try.func8, Try.ntmps8
  go_wp2_with fail
  refine (own_any _ _ _ _ _ _).mono ?_; rintro e w1 ⟨rfl, hb1⟩
  have o0 := (own_new _ _ _).below hb1
  go_wp2_with fail
  refine (Q1.out _).mono ?_; rintro e w2 ⟨rfl, hb2⟩
  have o0 := (o0).below hb2
  have co0_1 := o0.five
  have zo0_1 := o0.lt
  go_wp2_with fail
  refine (own_any _ _ _ _ _ _).mono ?_; rintro e w3 ⟨rfl, hb3⟩
  have o0 := (o0.alloc _).below hb3
  have o1 := (own_new _ _ _).below hb3
  have co0_2 := o0.five
  have zo0_2 := o0.lt
  go_wp2_with fail
  refine (Q3.out _).mono ?_; rintro e w4 ⟨rfl, hb4⟩
  have o0 := (o0).below hb4
  have o1 := (o1).below hb4
  have co0_3 := o0.five
  have zo0_3 := o0.lt
  go_wp2_with fail
  refine (own_any _ _ _ _ _ _).mono ?_; rintro e w5 ⟨rfl, hb5⟩
  have o0 := (o0.alloc _).below hb5
  have o1 := (o1.alloc _).below hb5
  have o2 := (own_new _ _ _).below hb5
  have co0_4 := o0.five
  have zo0_4 := o0.lt
  go_wp2_with fail
  refine (Q5.out _).mono ?_; rintro e w6 ⟨rfl, hb6⟩
  have o0 := (o0).below hb6
  have o1 := (o1).below hb6
  have o2 := (o2).below hb6
  have co0_5 := o0.five
  have zo0_5 := o0.lt
  go_wp2_with fail
  refine (Q2.out _).mono ?_; rintro e w7 ⟨rfl, hb7⟩
  have o0 := (o0.alloc _).below hb7
  have o1 := (o1.alloc _).below hb7
  have o2 := (o2.alloc _).below hb7
  have o3 := (own_new _ _ _).below hb7
  have co0_6 := o0.five
  have zo0_6 := o0.lt
  go_wp2_with fail
  refine (Q4.out _).mono ?_; rintro e w8 ⟨rfl, hb8⟩
  have o0 := (o0.alloc _).below hb8
  have o1 := (o1.alloc _).below hb8
  have o2 := (o2.alloc _).below hb8
  have o3 := (o3.alloc _).below hb8
  have o4 := (own_new _ _ _).below hb8
  have co0_7 := o0.five
  have zo0_7 := o0.lt
  go_wp2_with fail
  refine (Q6.out _).mono ?_; rintro e w9 ⟨rfl, hb9⟩
  have o0 := (o0.alloc _).below hb9
  have o1 := (o1.alloc _).below hb9
  have o2 := (o2.alloc _).below hb9
  have o3 := (o3.alloc _).below hb9
  have o4 := (o4.alloc _).below hb9
  have o5 := (own_new _ _ _).below hb9
  have co0_8 := o0.five
  have zo0_8 := o0.lt
  go_wp2_with fail
  obtain ⟨W, hW⟩ : ∃ W, W = w9.alloc (Obj.cells #[Value.bool s'', Value.bool z'', Value.bool x'', Value.bool p'', Value.bool k''] 30) := ⟨_, rfl⟩
  have o0 := (o0.alloc (Obj.cells #[Value.bool s'', Value.bool z'', Value.bool x'', Value.bool p'', Value.bool k''] 30)).five
  have o1 := (o1.alloc (Obj.cells #[Value.bool s'', Value.bool z'', Value.bool x'', Value.bool p'', Value.bool k''] 30)).five
  have o2 := (o2.alloc (Obj.cells #[Value.bool s'', Value.bool z'', Value.bool x'', Value.bool p'', Value.bool k''] 30)).five
  have o3 := (o3.alloc (Obj.cells #[Value.bool s'', Value.bool z'', Value.bool x'', Value.bool p'', Value.bool k''] 30)).five
  have o4 := (o4.alloc (Obj.cells #[Value.bool s'', Value.bool z'', Value.bool x'', Value.bool p'', Value.bool k''] 30)).five
  have o5 := (o5.alloc (Obj.cells #[Value.bool s'', Value.bool z'', Value.bool x'', Value.bool p'', Value.bool k''] 30)).five
  have o6 := (own_new w9 #[Value.bool s'', Value.bool z'', Value.bool x'', Value.bool p'', Value.bool k''] 30).five
  have bW : Below w.heap.size w W := by
    rw [hW]
    repeat (first | with_reducible exact Below.refl _ _ | with_reducible apply bdrew | with_reducible apply bdrewN | with_reducible apply balloc | (with_reducible apply bset; focus (first | (simp; done) | (simp; omega))) | (with_reducible apply bthen; focus (with_reducible assumption)))
  rw [← hW] at o0 o1 o2 o3 o4 o5 o6 ⊢
  clear hW hb1 hb2 hb3 hb4 hb5 hb6 hb7 hb8 hb9 co0_1 zo0_1 co0_2 zo0_2 co0_3 zo0_3 co0_4 zo0_4 co0_5 zo0_5 co0_6 zo0_6 co0_7 zo0_7 co0_8 zo0_8
  go_region_held3 (fun w' => (w'.cell? ⟨w2.heap.size, 0, none⟩ = some (.bool s) ∧ w'.cell? ⟨w2.heap.size, 1, none⟩ = some (.bool z) ∧ w'.cell? ⟨w2.heap.size, 2, none⟩ = some (.bool x) ∧ w'.cell? ⟨w2.heap.size, 3, none⟩ = some (.bool p) ∧ w'.cell? ⟨w2.heap.size, 4, none⟩ = some (.bool k) ∧ w'.cell? ⟨w4.heap.size, 0, none⟩ = some (.bool s') ∧ w'.cell? ⟨w4.heap.size, 1, none⟩ = some (.bool z') ∧ w'.cell? ⟨w4.heap.size, 2, none⟩ = some (.bool x') ∧ w'.cell? ⟨w4.heap.size, 3, none⟩ = some (.bool p') ∧ w'.cell? ⟨w4.heap.size, 4, none⟩ = some (.bool k') ∧ w'.cell? ⟨w6.heap.size, 0, none⟩ = some (.bool s'') ∧ w'.cell? ⟨w6.heap.size, 1, none⟩ = some (.bool z'') ∧ w'.cell? ⟨w6.heap.size, 2, none⟩ = some (.bool x'') ∧ w'.cell? ⟨w6.heap.size, 3, none⟩ = some (.bool p'') ∧ w'.cell? ⟨w6.heap.size, 4, none⟩ = some (.bool k'') ∧ w'.cell? ⟨w7.heap.size, 0, none⟩ = some (.bool s) ∧ w'.cell? ⟨w7.heap.size, 1, none⟩ = some (.bool z) ∧ w'.cell? ⟨w7.heap.size, 2, none⟩ = some (.bool x) ∧ w'.cell? ⟨w7.heap.size, 3, none⟩ = some (.bool p) ∧ w'.cell? ⟨w7.heap.size, 4, none⟩ = some (.bool k) ∧ w'.cell? ⟨w8.heap.size, 0, none⟩ = some (.bool s') ∧ w'.cell? ⟨w8.heap.size, 1, none⟩ = some (.bool z') ∧ w'.cell? ⟨w8.heap.size, 2, none⟩ = some (.bool x') ∧ w'.cell? ⟨w8.heap.size, 3, none⟩ = some (.bool p') ∧ w'.cell? ⟨w8.heap.size, 4, none⟩ = some (.bool k') ∧ w'.cell? ⟨w9.heap.size, 0, none⟩ = some (.bool s'') ∧ w'.cell? ⟨w9.heap.size, 1, none⟩ = some (.bool z'') ∧ w'.cell? ⟨w9.heap.size, 2, none⟩ = some (.bool x'') ∧ w'.cell? ⟨w9.heap.size, 3, none⟩ = some (.bool p'') ∧ w'.cell? ⟨w9.heap.size, 4, none⟩ = some (.bool k'')) ∧ Below w.heap.size w w')
    (((try dsimp only); apply And.intro; (focus (first | (go_split_ands; refine ⟨?_, ?_, ?_, ?_, ?_, ?_, ?_, ?_, ?_, ?_, ?_, ?_, ?_, ?_, ?_, ?_, ?_, ?_, ?_, ?_, ?_, ?_, ?_, ?_, ?_, ?_, ?_, ?_, ?_, ?_⟩ <;> (refine cell_below ?_ (by assumption); assumption)) | go_keep)); (first | exact bW | exact bdrew bW | (go_split_ands; (refine bthen (by assumption) ?_; assumption)))))
    (first
      | (go_simp; go_at_call 21; refine (back_any _ _ _ _ _ _).mono ?_; rintro e wn ⟨rfl, hbn⟩)
      | (go_simp; go_at_call 12; refine (alive_any _).mono ?_; rintro e wn ⟨rfl, hbn⟩))
  go_wp2
  go_ret
  exact ⟨rfl, by go_split_ands; assumption⟩

end Go.Proofs.Ytpoaiojlaijoiaa
