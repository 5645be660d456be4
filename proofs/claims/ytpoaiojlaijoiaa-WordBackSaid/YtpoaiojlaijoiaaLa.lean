/- The walks of the laws' own small functions of layer 1. -/
import Derived.Test.YtpoaiojlaijoiaaWd
import Derived.Test.YtpoaiojlaijoiaaRb
namespace Go.Proofs.Ytpoaiojlaijoiaa
open Go.RowKit
set_option linter.unusedVariables false
set_option linter.unusedSimpArgs false

set_option maxHeartbeats 400000 in
theorem back_any (s z x p c : Bool) (w : World) :
    Calls Try.prog 21 #[.agg #[.bool s, .bool z, .bool x, .bool p, .bool c]] w fun e w' => e = .returned (.agg #[.bool s, .bool z, .bool x, .bool p, .bool c]) ∧ Below w.heap.size w w' := by
  go_enter Try.func21, Try.ntmps21
  go_wp2
  refine bodyPost_ret ?_ rfl ⟨rfl, ?_⟩
  · simp [results, Try.results21, go_sem]
  · exact balloc (balloc (Below.refl _ _) _) _

set_option maxHeartbeats 400000 in
theorem own_any (s z x p c : Bool) (w : World) :
    Calls Try.prog 28 #[.agg #[.bool s, .bool z, .bool x, .bool p, .bool c]] w fun e w' => e = .returned (.agg #[.bool s, .bool z, .bool x, .bool p, .bool c]) ∧ Below w.heap.size w w' := by
  go_enter Try.func28, Try.ntmps28
  go_wp2
  refine bodyPost_ret ?_ rfl ⟨rfl, ?_⟩
  · simp [results, Try.results28, go_sem]
  · exact balloc (balloc (Below.refl _ _) _) _

theorem add_al (w : World) : Calls Try.prog 13 #[.int .u8 154, .int .u8 102, .bool false] w fun e w' =>
    e = .returned (.tuple #[.int .u8 0, .agg #[.bool false, .bool true, .bool true, .bool true, .bool true]]) ∧ Below w.heap.size w w' := by
  have g := add_any 154 102 false (by decide) (by decide) (by decide) (by decide) w
  have e0 : ((154 : Int) + 102 + cb false) % 256 = 0 := by decide
  have e1 : sgn 0 = false := by decide
  have e2 : ((0 : Int) == 0) = true := by decide
  have e3 : decide (15 < (154 : Int) % 16 + 102 % 16 + cb false) = true := by decide
  have e4 : par 0 = true := by decide
  have e5 : decide (255 < (154 : Int) + 102 + cb false) = true := by decide
  rw [e0, e1, e2, e3, e4, e5] at g
  exact g

theorem daa_al (w : World) : Calls Try.prog 14 #[.int .u8 154, .agg #[.bool false, .bool false, .bool false, .bool false, .bool false]] w fun e w' =>
    e = .returned (.tuple #[.int .u8 0, .agg #[.bool false, .bool true, .bool true, .bool true, .bool true]]) ∧ Below w.heap.size w w' := by
  have g := daa_any 154 false false false false false (by decide) (by decide) w
  have e0 : daaV 154 false false = 0 := by decide
  have e1 : sgn 0 = false := by decide
  have e2 : ((0 : Int) == 0) = true := by decide
  have e3 : decide (9 < (154 : Int) % 16) = true := by decide
  have e4 : par 0 = true := by decide
  have e5 : daaC 154 false false = true := by decide
  rw [e0, e1, e2, e3, e4, e5] at g
  exact g

set_option maxHeartbeats 400000 in
theorem alive_any (w : World) : Calls Try.prog 12 #[] w fun e w' => e = .returned (.bool true) ∧ Below w.heap.size w w' := by
  go_enter Try.func12, Try.ntmps12
  go_wp2_with fail
  refine (add_al _).mono ?_; rintro e w1 ⟨rfl, hb1⟩
  go_wp2_with fail
  refine (daa_al _).mono ?_; rintro e w2 ⟨rfl, hb2⟩
  obtain ⟨hc, hf⟩ := bcell hb2
  have hz : w1.heap.size < w2.heap.size := by have := hb2.size; simp at this; omega
  go_wp2
  go_ret
  exact ⟨rfl, by repeat (first | with_reducible exact Below.refl _ _ | with_reducible apply bdrew | with_reducible apply bdrewN | with_reducible apply balloc | (with_reducible apply bset; focus (first | (simp; done) | (simp; omega))) | (with_reducible apply bthen; focus (with_reducible assumption)))⟩

end Go.Proofs.Ytpoaiojlaijoiaa
