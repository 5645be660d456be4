/- What isa86.two tells. -/
import Derived.Test.YtbhkndblolegaaaIt1
import Derived.Test.YtbhkndblolegaaaIt2
import Derived.Test.YtbhkndblolegaaaIt3
namespace Go.Proofs.Ytbhkndblolegaaa
open Go.RowKit
set_option linter.unusedVariables false
set_option linter.unusedSimpArgs false

theorem two_any (op d s : Int) (w : World) : Calls Try.prog 69 #[.int .i64 op, .int .i64 d, .int .i64 s] w (HeadIs w (twoL op d s)) := by
  have hs : wideL s = 0 → ¬ s = 1 := by
    rintro h rfl; revert h; decide
  have hd : wideL d = 0 → ¬ d = 1 := by
    rintro h rfl; revert h; decide
  rcases wide_cases d with ⟨dw, d0, d1⟩ | ⟨dw, d0, d1⟩ | ⟨dw, _⟩
  · rcases wide_cases s with ⟨sw, s0, s1⟩ | ⟨sw, s0, s1⟩ | ⟨sw, _⟩
    · by_cases p : op ≤ 0
      · exact two_0A op d s p dw d0 d1 sw s0 s1 w
      by_cases p1 : op = 1
      · subst p1; exact two_1A d s dw d0 d1 sw s0 s1 w
      by_cases q : op ≤ 9
      · exact two_2A op d s (by omega) q dw d0 d1 sw s0 s1 w
      by_cases q17 : op = 17
      · subst q17; exact two_17A d s dw d0 d1 sw s0 s1 (by omega) (by omega) w
      by_cases q30 : op = 30
      · subst q30; exact two_30A d s dw d0 d1 sw s0 s1 (by omega) w
      by_cases q31 : op = 31
      · subst q31; exact two_31A d s dw d0 d1 sw s0 s1 (by omega) w
      exact two_9A op d s (by omega) (by omega) (by omega) (by omega) dw d0 d1 sw s0 s1 w
    · by_cases p : op ≤ 0
      · exact two_0C op d s p dw d0 d1 sw s0 s1 (by omega) (by omega) w
      by_cases p1 : op = 1
      · subst p1; exact two_1C d s dw d0 d1 sw s0 s1 (by omega) (by omega) w
      by_cases q : op ≤ 9
      · exact two_2C op d s (by omega) q dw d0 d1 sw s0 s1 (by omega) (by omega) w
      by_cases q17 : op = 17
      · subst q17; exact two_17C d s dw d0 d1 sw s0 s1 (by omega) (by omega) w
      by_cases q30 : op = 30
      · subst q30; exact two_30C d s dw d0 d1 sw s0 s1 (by omega) (by omega) w
      by_cases q31 : op = 31
      · subst q31; exact two_31C d s dw d0 d1 sw s0 s1 (by omega) (by omega) (by omega) w
      exact two_9C op d s (by omega) (by omega) (by omega) (by omega) dw d0 d1 sw s0 s1 (by omega) (by omega) w
    · by_cases p : op ≤ 0
      · exact two_0E op d s p dw d0 d1 sw (hs sw) w
      by_cases p1 : op = 1
      · subst p1; exact two_1E d s dw d0 d1 sw (hs sw) w
      by_cases q : op ≤ 9
      · by_cases r : s = 17
        · subst r; exact two_2E17 op d (by omega) q dw d0 d1 w
        by_cases r : s = 20
        · subst r
          by_cases t : d = 1
          · subst t; exact two_2E20a op (by omega) q w
          · exact two_2E20b op d (by omega) q dw d0 d1 (by omega) w
        exact two_2E op d s (by omega) q dw d0 d1 sw (hs sw) (by omega) (by omega) w
      by_cases q17 : op = 17
      · subst q17; exact two_17E d s dw d0 d1 sw (hs sw) w
      by_cases q30 : op = 30
      · subst q30
        by_cases r : s = 20
        · by_cases t : d = 1
          · subst r t; exact two_30Ea w
          · exact two_30Ec d s dw d0 d1 sw (hs sw) (by omega) w
        · exact two_30Eb d s dw d0 d1 sw (hs sw) (by omega) w
      by_cases q31 : op = 31
      · subst q31; exact two_31E d s dw d0 d1 sw (hs sw) (by omega) w
      exact two_9E op d s (by omega) (by omega) (by omega) (by omega) dw d0 d1 sw (hs sw) w
  · rcases wide_cases s with ⟨sw, s0, s1⟩ | ⟨sw, s0, s1⟩ | ⟨sw, _⟩
    · by_cases p : op ≤ 0
      · exact two_0D op d s p dw d0 d1 sw s0 s1 (by omega) w
      by_cases p1 : op = 1
      · subst p1; exact two_1D d s dw d0 d1 sw s0 s1 (by omega) w
      by_cases q : op ≤ 9
      · exact two_2D op d s (by omega) q dw d0 d1 sw s0 s1 (by omega) w
      by_cases q17 : op = 17
      · subst q17; exact two_17D d s dw d0 d1 sw s0 s1 (by omega) w
      by_cases q30 : op = 30
      · subst q30; exact two_30D d s dw d0 d1 sw s0 s1 (by omega) (by omega) w
      by_cases q31 : op = 31
      · subst q31; exact two_31D d s dw d0 d1 sw s0 s1 (by omega) (by omega) w
      exact two_9D op d s (by omega) (by omega) (by omega) (by omega) dw d0 d1 sw s0 s1 (by omega) w
    · by_cases p : op ≤ 0
      · exact two_0B op d s p dw d0 d1 sw s0 s1 w
      by_cases p1 : op = 1
      · subst p1; exact two_1B d s dw d0 d1 sw s0 s1 w
      by_cases q : op ≤ 9
      · exact two_2B op d s (by omega) q dw d0 d1 sw s0 s1 w
      by_cases q17 : op = 17
      · subst q17
        by_cases r : d = 9
        · subst r; exact two_17B9 s sw s0 s1 w
        by_cases r2 : s = 9
        · subst r2; exact two_17Bs d dw d0 d1 (by omega) w
        exact two_17B d s dw d0 d1 sw s0 s1 (by omega) (by omega) w
      by_cases q30 : op = 30
      · subst q30; exact two_30B d s dw d0 d1 sw s0 s1 (by omega) w
      by_cases q31 : op = 31
      · subst q31; exact two_31B d s dw d0 d1 sw s0 s1 (by omega) w
      exact two_9B op d s (by omega) (by omega) (by omega) (by omega) dw d0 d1 sw s0 s1 w
    · by_cases p : op ≤ 0
      · exact two_0F op d s p dw d0 d1 sw (by omega) (hs sw) w
      by_cases p1 : op = 1
      · subst p1; exact two_1F d s dw d0 d1 sw (by omega) (hs sw) w
      by_cases q : op ≤ 9
      · exact two_2F op d s (by omega) q dw d0 d1 sw (by omega) (hs sw) w
      by_cases q17 : op = 17
      · subst q17; exact two_17F d s dw d0 d1 sw (by omega) (hs sw) w
      by_cases q30 : op = 30
      · subst q30; exact two_30F d s dw d0 d1 sw (by omega) (hs sw) w
      by_cases q31 : op = 31
      · subst q31; exact two_31F d s dw d0 d1 sw (by omega) (hs sw) (by omega) w
      exact two_9F op d s (by omega) (by omega) (by omega) (by omega) dw d0 d1 sw (by omega) (hs sw) w
  · by_cases p : op ≤ 0
    · exact two_0G op d s p dw (hd dw) w
    by_cases p1 : op = 1
    · subst p1; exact two_1G d s dw (hd dw) w
    by_cases q : op ≤ 9
    · exact two_2G op d s (by omega) q dw (hd dw) w
    by_cases q17 : op = 17
    · subst q17; exact two_17G d s dw (hd dw) w
    by_cases q30 : op = 30
    · subst q30; exact two_30G d s dw (hd dw) w
    by_cases q31 : op = 31
    · subst q31
      by_cases r : d = 20
      · by_cases t : s = 1
        · subst r t; exact two_31Ga w
        · exact two_31Gb d s dw (hd dw) (by omega) w
      · exact two_31Gc d s dw (hd dw) (by omega) w
    exact two_9G op d s (by omega) (by omega) (by omega) (by omega) dw (hd dw) w

end Go.Proofs.Ytbhkndblolegaaa
