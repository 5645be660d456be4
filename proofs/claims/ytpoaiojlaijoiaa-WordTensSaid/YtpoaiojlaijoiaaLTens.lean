/- The walk of the law WordTens: whatever two bytes come in, the law returns true, and nothing that was there has changed. -/
import Derived.Test.YtpoaiojlaijoiaaLa
import Derived.Test.YtpoaiojlaijoiaaTn
namespace Go.Proofs.Ytpoaiojlaijoiaa
open Go.RowKit
set_option linter.unusedVariables false
set_option linter.unusedSimpArgs false

set_option maxHeartbeats 1000000 in
theorem wordTens_any (a b : Int) (h0 : 0 ≤ a) (h1 : a ≤ 255) (h2 : 0 ≤ b) (h3 : b ≤ 255) (w : World) :
    Calls Try.prog 3 #[.int .u8 a, .int .u8 b] w fun e w' => e = .returned (.bool true) ∧ Below w.heap.size w w' := by
  by_cases ha : 99 < a
  · go_enter Try.func3, Try.ntmps3
    go_wp2_with fail
    refine (alive_any _).mono ?_; rintro e w1 ⟨rfl, hb1⟩
    go_wp2
    go_ret
    exact ⟨rfl, hb1⟩
  · by_cases hb : 99 < b
    · go_enter Try.func3, Try.ntmps3
      go_wp2_with fail
      refine (alive_any _).mono ?_; rintro e w1 ⟨rfl, hb1⟩
      go_wp2
      go_ret
      exact ⟨rfl, hb1⟩
    · obtain ⟨hv, hw⟩ := tens_v a b h0 (by omega) h2 (by omega)
      have HV := Lib.hid hv
      have HW := Lib.hid hw
      clear hv hw
      go_enter Try.func3, Try.ntmps3
      go_wp2_with fail
      refine (add_any _ _ _ (by omega) (by omega) (by omega) (by omega) _).mono ?_; rintro e w1 ⟨rfl, hb1⟩
      go_wp2_with fail
      refine (daa_any _ _ _ _ _ _ (by omega) (by omega) _).mono ?_; rintro e w2 ⟨rfl, hb2⟩
      rw [HV.out, HW.out]
      obtain ⟨hc, hf⟩ := bcell hb2
      have hz : w1.heap.size < w2.heap.size := by have := hb2.size; simp at this; omega
      go_wp2_with fail
      refine (alive_any _).mono ?_; rintro e w3 ⟨rfl, hb3⟩
      go_wp2
      go_ret
      exact ⟨rfl, by repeat (first | with_reducible exact Below.refl _ _ | with_reducible apply bdrew | with_reducible apply bdrewN | with_reducible apply balloc | (with_reducible apply bset; focus (first | (simp; done) | (simp; omega))) | (with_reducible apply bthen; focus (with_reducible assumption)))⟩

end Go.Proofs.Ytpoaiojlaijoiaa
