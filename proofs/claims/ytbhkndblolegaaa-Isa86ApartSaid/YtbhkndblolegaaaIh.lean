/- What isa86.heads tells. -/
import Derived.Test.YtbhkndblolegaaaIh1
import Derived.Test.YtbhkndblolegaaaIh2
namespace Go.Proofs.Ytbhkndblolegaaa
open Go.RowKit
set_option linter.unusedVariables false
set_option linter.unusedSimpArgs false

theorem heads_any (op d s : Int) (w : World) : Calls Try.prog 42 #[.int .i64 op, .int .i64 d, .int .i64 s] w (HeadIs w (headsL op d s)) := by
  by_cases p : op < 1
  · exact heads_a op d s p w
  by_cases hs : s = 0
  · subst hs
    by_cases p1 : op = 1
    · subst p1; exact heads_c1 d w
    by_cases p2 : op = 17
    · subst p2; exact heads_c17 d w
    by_cases p4 : 10 ≤ op ∧ op ≤ 19
    · exact heads_e op d p4.1 p4.2 p2 (by omega) (by simp; omega) (by simp; omega) w
    by_cases p29 : 2 ≤ op ∧ op ≤ 9
    · by_cases z : d = 0
      · subst z; exact heads_r2z op p29.1 p29.2 (by simp; omega) (by simp; omega) (by omega) (by omega) (by omega) (by omega) (by omega) (by omega) (by omega) (by omega) (by omega) (by omega) (by omega) (by omega) (by omega) w
      by_cases t : d = 20
      · subst t; exact heads_r2t op p29.1 p29.2 (by simp; omega) (by simp; omega) (by omega) (by omega) (by omega) (by omega) (by omega) (by omega) (by omega) (by omega) (by omega) (by omega) (by omega) (by omega) (by omega) w
      exact heads_r2x op d p29.1 p29.2 z t (by simp; omega) (by simp; omega) (by omega) (by omega) (by omega) (by omega) (by omega) (by omega) (by omega) (by omega) (by omega) (by omega) (by omega) (by omega) (by omega) w
    by_cases p39 : 30 ≤ op ∧ op ≤ 31
    · by_cases z : d = 0
      · subst z; exact heads_r3z op p39.1 p39.2 (by simp; omega) (by simp; omega) (by omega) (by omega) (by omega) (by omega) (by omega) (by omega) (by omega) (by omega) (by omega) (by omega) (by omega) (by omega) (by omega) w
      by_cases t : d = 20
      · subst t; exact heads_r3t op p39.1 p39.2 (by simp; omega) (by simp; omega) (by omega) (by omega) (by omega) (by omega) (by omega) (by omega) (by omega) (by omega) (by omega) (by omega) (by omega) (by omega) (by omega) w
      exact heads_r3x op d p39.1 p39.2 z t (by simp; omega) (by simp; omega) (by omega) (by omega) (by omega) (by omega) (by omega) (by omega) (by omega) (by omega) (by omega) (by omega) (by omega) (by omega) (by omega) w
    by_cases p49 : 36 ≤ op ∧ op ≤ 41
    · by_cases z : d = 0
      · subst z; exact heads_r4z op p49.1 p49.2 (by simp; omega) (by simp; omega) (by omega) (by omega) (by omega) (by omega) (by omega) (by omega) (by omega) (by omega) (by omega) (by omega) (by omega) (by omega) (by omega) w
      by_cases t : d = 20
      · subst t; exact heads_r4t op p49.1 p49.2 (by simp; omega) (by simp; omega) (by omega) (by omega) (by omega) (by omega) (by omega) (by omega) (by omega) (by omega) (by omega) (by omega) (by omega) (by omega) (by omega) w
      exact heads_r4x op d p49.1 p49.2 z t (by simp; omega) (by simp; omega) (by omega) (by omega) (by omega) (by omega) (by omega) (by omega) (by omega) (by omega) (by omega) (by omega) (by omega) (by omega) (by omega) w
    by_cases p46 : op = 46
    · subst p46
      by_cases z : d = 0
      · subst z; exact heads_46z w
      by_cases t : d = 20
      · subst t; exact heads_46t w
      exact heads_46x d z t w
    by_cases p47 : op = 47
    · subst p47
      by_cases z : d = 0
      · subst z; exact heads_47z w
      by_cases t : d = 20
      · subst t; exact heads_47t w
      exact heads_47x d z t w
    by_cases p69 : 52 ≤ op
    · by_cases z : d = 0
      · subst z; exact heads_r6z op p69 (by simp; omega) (by simp; omega) (by omega) (by omega) (by omega) (by omega) (by omega) (by omega) (by omega) (by omega) (by omega) (by omega) (by omega) (by omega) (by omega) w
      by_cases t : d = 20
      · subst t; exact heads_r6t op p69 (by simp; omega) (by simp; omega) (by omega) (by omega) (by omega) (by omega) (by omega) (by omega) (by omega) (by omega) (by omega) (by omega) (by omega) (by omega) (by omega) w
      exact heads_r6x op d p69 z t (by simp; omega) (by simp; omega) (by omega) (by omega) (by omega) (by omega) (by omega) (by omega) (by omega) (by omega) (by omega) (by omega) (by omega) (by omega) (by omega) w
    exact heads_lit op d (by omega) w
  · exact heads_b op d s (by omega) hs w

end Go.Proofs.Ytbhkndblolegaaa
