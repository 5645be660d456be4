/- The walk of the law WordSums: whatever comes in, the law returns true, and nothing that was there has changed. -/
import Derived.Test.YtpoaiojlaijoiaaLa
import Derived.Deep.RegionHeld3
namespace Go.Proofs.Ytpoaiojlaijoiaa
open Go.RowKit
set_option linter.unusedVariables false
set_option linter.unusedSimpArgs false

theorem sums_pair (a b : Int) (c : Bool) (h0 : 0 ≤ a) (h1 : a ≤ 255) (h2 : 0 ≤ b) (h3 : b ≤ 255) : ∃ (V : Int) (s z x p k : Bool),
    (∀ w, Calls Try.prog 13 #[.int .u8 a, .int .u8 b, .bool c] w fun e w' => e = .returned (.tuple #[.int .u8 V, .agg #[.bool s, .bool z, .bool x, .bool p, .bool k]]) ∧ Below w.heap.size w w') ∧
    (∀ w, Calls Try.prog 23 #[.int .u8 a, .int .u8 b, .bool c] w fun e w' => e = .returned (.tuple #[.int .u8 V, .agg #[.bool s, .bool z, .bool x, .bool p, .bool k]]) ∧ Below w.heap.size w w') :=
  ⟨_, _, _, _, _, _, fun w => add_any a b c h0 h1 h2 h3 w, fun w => radd_any a b c h0 h1 h2 h3 w⟩

theorem subs_pair (a b : Int) (c : Bool) (h0 : 0 ≤ a) (h1 : a ≤ 255) (h2 : 0 ≤ b) (h3 : b ≤ 255) : ∃ (V : Int) (s z x p k : Bool),
    (∀ w, Calls Try.prog 24 #[.int .u8 a, .int .u8 b, .bool c] w fun e w' => e = .returned (.tuple #[.int .u8 V, .agg #[.bool s, .bool z, .bool x, .bool p, .bool k]]) ∧ Below w.heap.size w w') ∧
    (∀ w, Calls Try.prog 25 #[.int .u8 a, .int .u8 b, .bool c] w fun e w' => e = .returned (.tuple #[.int .u8 V, .agg #[.bool s, .bool z, .bool x, .bool p, .bool k]]) ∧ Below w.heap.size w w') :=
  ⟨_, _, _, _, _, _, fun w => sub_any a b c h0 h1 h2 h3 w, fun w => rsub_any a b c h0 h1 h2 h3 w⟩

set_option maxHeartbeats 2000000 in
theorem wordSums_any (a b : Int) (c : Bool) (h0 : 0 ≤ a) (h1 : a ≤ 255) (h2 : 0 ≤ b) (h3 : b ≤ 255) (w : World) :
    Calls Try.prog 6 #[.int .u8 a, .int .u8 b, .bool c] w fun e w' => e = .returned (.bool true) ∧ Below w.heap.size w w' := by
  obtain ⟨V, s, z, x, p, k, q1, q2⟩ := sums_pair a b c h0 h1 h2 h3
  obtain ⟨V', s', z', x', p', k', q3, q4⟩ := subs_pair a b c h0 h1 h2 h3
  have Q1 := Lib.hid q1
  have Q2 := Lib.hid q2
  have Q3 := Lib.hid q3
  have Q4 := Lib.hid q4
  clear q1 q2 q3 q4
  go_enter Try.func6, Try.ntmps6
  go_wp2_with fail
  refine (Q1.out _).mono ?_; rintro e w1 ⟨rfl, hb1⟩
  go_wp2_with fail
  refine (Q2.out _).mono ?_; rintro e w2 ⟨rfl, hb2⟩
  have o0 := (own_new _ _ _).below hb2
  go_wp2_with fail
  refine (Q3.out _).mono ?_; rintro e w3 ⟨rfl, hb3⟩
  have o0 := (o0.alloc _).below hb3
  have o1 := (own_new _ _ _).below hb3
  go_wp2_with fail
  refine (Q4.out _).mono ?_; rintro e w4 ⟨rfl, hb4⟩
  have o0 := (o0.alloc _).below hb4
  have o1 := (o1.alloc _).below hb4
  have o2 := (own_new _ _ _).below hb4
  go_wp2_with fail
  obtain ⟨W, hW⟩ : ∃ W, W = w4.alloc (Obj.cells #[Value.bool s', Value.bool z', Value.bool x', Value.bool p', Value.bool k'] 30) := ⟨_, rfl⟩
  have o0 := (o0.alloc (Obj.cells #[Value.bool s', Value.bool z', Value.bool x', Value.bool p', Value.bool k'] 30)).five
  have o1 := (o1.alloc (Obj.cells #[Value.bool s', Value.bool z', Value.bool x', Value.bool p', Value.bool k'] 30)).five
  have o2 := (o2.alloc (Obj.cells #[Value.bool s', Value.bool z', Value.bool x', Value.bool p', Value.bool k'] 30)).five
  have o3 := (own_new w4 #[Value.bool s', Value.bool z', Value.bool x', Value.bool p', Value.bool k'] 30).five
  have bW : Below w.heap.size w W := by
    rw [hW]
    repeat (first | with_reducible exact Below.refl _ _ | with_reducible apply bdrew | with_reducible apply bdrewN | with_reducible apply balloc | (with_reducible apply bset; focus (first | (simp; done) | (simp; omega))) | (with_reducible apply bthen; focus (with_reducible assumption)))
  rw [← hW] at o0 o1 o2 o3 ⊢
  clear hW hb1 hb2 hb3 hb4
  go_region_held3 (fun w' => (w'.cell? ⟨w1.heap.size, 0, none⟩ = some (.bool s) ∧ w'.cell? ⟨w1.heap.size, 1, none⟩ = some (.bool z) ∧ w'.cell? ⟨w1.heap.size, 2, none⟩ = some (.bool x) ∧ w'.cell? ⟨w1.heap.size, 3, none⟩ = some (.bool p) ∧ w'.cell? ⟨w1.heap.size, 4, none⟩ = some (.bool k) ∧ w'.cell? ⟨w2.heap.size, 0, none⟩ = some (.bool s) ∧ w'.cell? ⟨w2.heap.size, 1, none⟩ = some (.bool z) ∧ w'.cell? ⟨w2.heap.size, 2, none⟩ = some (.bool x) ∧ w'.cell? ⟨w2.heap.size, 3, none⟩ = some (.bool p) ∧ w'.cell? ⟨w2.heap.size, 4, none⟩ = some (.bool k) ∧ w'.cell? ⟨w3.heap.size, 0, none⟩ = some (.bool s') ∧ w'.cell? ⟨w3.heap.size, 1, none⟩ = some (.bool z') ∧ w'.cell? ⟨w3.heap.size, 2, none⟩ = some (.bool x') ∧ w'.cell? ⟨w3.heap.size, 3, none⟩ = some (.bool p') ∧ w'.cell? ⟨w3.heap.size, 4, none⟩ = some (.bool k') ∧ w'.cell? ⟨w4.heap.size, 0, none⟩ = some (.bool s') ∧ w'.cell? ⟨w4.heap.size, 1, none⟩ = some (.bool z') ∧ w'.cell? ⟨w4.heap.size, 2, none⟩ = some (.bool x') ∧ w'.cell? ⟨w4.heap.size, 3, none⟩ = some (.bool p') ∧ w'.cell? ⟨w4.heap.size, 4, none⟩ = some (.bool k')) ∧ Below w.heap.size w w')
    (((try dsimp only); apply And.intro; (focus (first | (go_split_ands; refine ⟨?_, ?_, ?_, ?_, ?_, ?_, ?_, ?_, ?_, ?_, ?_, ?_, ?_, ?_, ?_, ?_, ?_, ?_, ?_, ?_⟩ <;> (refine cell_below ?_ (by assumption); assumption)) | go_keep)); (first | exact bW | exact bdrew bW | (go_split_ands; (refine bthen (by assumption) ?_; assumption)))))
    (first
      | (go_simp; go_at_call 21; refine (back_any _ _ _ _ _ _).mono ?_; rintro e wn ⟨rfl, hbn⟩)
      | (go_simp; go_at_call 12; refine (alive_any _).mono ?_; rintro e wn ⟨rfl, hbn⟩))
  go_wp2
  go_ret
  exact ⟨rfl, by go_split_ands; assumption⟩

end Go.Proofs.Ytpoaiojlaijoiaa
