/- The walks of isa86.one, by its operation and its operand's width. -/
import Derived.Test.YtbhkndblolegaaaIb
namespace Go.Proofs.Ytbhkndblolegaaa
open Go.RowKit
set_option linter.unusedVariables false
set_option linter.unusedSimpArgs false

theorem one_consts : bits BinOp.or IntKind.u8 64 0 = 64 ∧ bits BinOp.or IntKind.u8 64 8 = 72 ∧ bits BinOp.or IntKind.u8 80 0 = 80 ∧ bits BinOp.or IntKind.u8 80 8 = 88 ∧ bits BinOp.or IntKind.u8 208 0 = 208 ∧ bits BinOp.or IntKind.u8 208 1 = 209 ∧ bits BinOp.and IntKind.u8 0 7 = 0 ∧ bits BinOp.and IntKind.u8 1 7 = 1 ∧ bits BinOp.and IntKind.u8 2 7 = 2 ∧ bits BinOp.and IntKind.u8 3 7 = 3 := by decide +kernel

set_option maxRecDepth 100000 in
set_option maxHeartbeats 2000000 in
theorem one_10_8 (d : Int) (dw : wideL d = 8) (d0 : 1 ≤ d) (d1 : d ≤ 8) (xd17 : ¬ d = 17) (w : World) :
    Calls Try.prog 70 #[.int .i64 10, .int .i64 d] w (HeadIs w (oneL 10 d)) := by
  have eq : oneL 10 d = ([254, 192 + numL d], 0) := by simp [oneL, *, wb]
  rw [eq]
  clear eq
  obtain ⟨c1, c2, c3, c4, c5, c6, c7, c8, c9, c0⟩ := one_consts
  have nd0 := numL_lo d
  have nd1 := numL_hi d
  have qd1 := or176 _ nd0 nd1
  have qd2 := or184 _ nd0 nd1
  obtain ⟨r1, r2, r3, r4⟩ := or64 _ nd0 nd1
  go_enter Try.func70, Try.ntmps70
  go_wp2_with (first
    | (go_at_call 94; refine (wide_any _ _).mono ?_; rintro e w' ⟨rfl, rfl⟩)
    | (go_at_call 96; refine (num_any _ (by omega) (by omega) _).mono ?_; rintro e w' ⟨rfl, rfl⟩)
    | (go_at_call 98; refine (mem_any _ _ (by omega) (by omega) (by omega) (by omega) _).mono ?_; rintro e w' ⟨rfl, rfl⟩)
    | (go_at_call 95; refine (rm_any _ _ (by omega) (by omega) (by omega) (by omega) _).mono ?_; rintro e w' ⟨rfl, rfl⟩)
    | (go_at_call 71; refine (of_any _ _ _ _ _).mono ?_; rintro e w1 ⟨rfl, hb⟩; have k := res2 hb; obtain ⟨hc, hf⟩ := bcell hb))
  all_goals
    refine bodyPost_ret ?_ rfl (head_leaf2 hb)
    simp [results, Try.results70, go_sem, k]

set_option maxRecDepth 100000 in
set_option maxHeartbeats 2000000 in
theorem one_11_8 (d : Int) (dw : wideL d = 8) (d0 : 1 ≤ d) (d1 : d ≤ 8) (xd17 : ¬ d = 17) (w : World) :
    Calls Try.prog 70 #[.int .i64 11, .int .i64 d] w (HeadIs w (oneL 11 d)) := by
  have eq : oneL 11 d = ([254, 200 + numL d], 0) := by simp [oneL, *, wb]
  rw [eq]
  clear eq
  obtain ⟨c1, c2, c3, c4, c5, c6, c7, c8, c9, c0⟩ := one_consts
  have nd0 := numL_lo d
  have nd1 := numL_hi d
  have qd1 := or176 _ nd0 nd1
  have qd2 := or184 _ nd0 nd1
  obtain ⟨r1, r2, r3, r4⟩ := or64 _ nd0 nd1
  go_enter Try.func70, Try.ntmps70
  go_wp2_with (first
    | (go_at_call 94; refine (wide_any _ _).mono ?_; rintro e w' ⟨rfl, rfl⟩)
    | (go_at_call 96; refine (num_any _ (by omega) (by omega) _).mono ?_; rintro e w' ⟨rfl, rfl⟩)
    | (go_at_call 98; refine (mem_any _ _ (by omega) (by omega) (by omega) (by omega) _).mono ?_; rintro e w' ⟨rfl, rfl⟩)
    | (go_at_call 95; refine (rm_any _ _ (by omega) (by omega) (by omega) (by omega) _).mono ?_; rintro e w' ⟨rfl, rfl⟩)
    | (go_at_call 71; refine (of_any _ _ _ _ _).mono ?_; rintro e w1 ⟨rfl, hb⟩; have k := res2 hb; obtain ⟨hc, hf⟩ := bcell hb))
  all_goals
    refine bodyPost_ret ?_ rfl (head_leaf2 hb)
    simp [results, Try.results70, go_sem, k]

set_option maxRecDepth 100000 in
set_option maxHeartbeats 2000000 in
theorem one_12_8 (d : Int) (dw : wideL d = 8) (d0 : 1 ≤ d) (d1 : d ≤ 8) (w : World) :
    Calls Try.prog 70 #[.int .i64 12, .int .i64 d] w (HeadIs w (oneL 12 d)) := by
  have eq : oneL 12 d = ([208, 192 + numL d], 0) := by simp [oneL, *, wb]
  rw [eq]
  clear eq
  obtain ⟨c1, c2, c3, c4, c5, c6, c7, c8, c9, c0⟩ := one_consts
  have nd0 := numL_lo d
  have nd1 := numL_hi d
  have qd1 := or176 _ nd0 nd1
  have qd2 := or184 _ nd0 nd1
  obtain ⟨r1, r2, r3, r4⟩ := or64 _ nd0 nd1
  go_enter Try.func70, Try.ntmps70
  go_wp2_with (first
    | (go_at_call 94; refine (wide_any _ _).mono ?_; rintro e w' ⟨rfl, rfl⟩)
    | (go_at_call 96; refine (num_any _ (by omega) (by omega) _).mono ?_; rintro e w' ⟨rfl, rfl⟩)
    | (go_at_call 98; refine (mem_any _ _ (by omega) (by omega) (by omega) (by omega) _).mono ?_; rintro e w' ⟨rfl, rfl⟩)
    | (go_at_call 95; refine (rm_any _ _ (by omega) (by omega) (by omega) (by omega) _).mono ?_; rintro e w' ⟨rfl, rfl⟩)
    | (go_at_call 71; refine (of_any _ _ _ _ _).mono ?_; rintro e w1 ⟨rfl, hb⟩; have k := res2 hb; obtain ⟨hc, hf⟩ := bcell hb))
  all_goals
    refine bodyPost_ret ?_ rfl (head_leaf2 hb)
    simp [results, Try.results70, go_sem, k]

set_option maxRecDepth 100000 in
set_option maxHeartbeats 2000000 in
theorem one_13_8 (d : Int) (dw : wideL d = 8) (d0 : 1 ≤ d) (d1 : d ≤ 8) (w : World) :
    Calls Try.prog 70 #[.int .i64 13, .int .i64 d] w (HeadIs w (oneL 13 d)) := by
  have eq : oneL 13 d = ([208, 200 + numL d], 0) := by simp [oneL, *, wb]
  rw [eq]
  clear eq
  obtain ⟨c1, c2, c3, c4, c5, c6, c7, c8, c9, c0⟩ := one_consts
  have nd0 := numL_lo d
  have nd1 := numL_hi d
  have qd1 := or176 _ nd0 nd1
  have qd2 := or184 _ nd0 nd1
  obtain ⟨r1, r2, r3, r4⟩ := or64 _ nd0 nd1
  go_enter Try.func70, Try.ntmps70
  go_wp2_with (first
    | (go_at_call 94; refine (wide_any _ _).mono ?_; rintro e w' ⟨rfl, rfl⟩)
    | (go_at_call 96; refine (num_any _ (by omega) (by omega) _).mono ?_; rintro e w' ⟨rfl, rfl⟩)
    | (go_at_call 98; refine (mem_any _ _ (by omega) (by omega) (by omega) (by omega) _).mono ?_; rintro e w' ⟨rfl, rfl⟩)
    | (go_at_call 95; refine (rm_any _ _ (by omega) (by omega) (by omega) (by omega) _).mono ?_; rintro e w' ⟨rfl, rfl⟩)
    | (go_at_call 71; refine (of_any _ _ _ _ _).mono ?_; rintro e w1 ⟨rfl, hb⟩; have k := res2 hb; obtain ⟨hc, hf⟩ := bcell hb))
  all_goals
    refine bodyPost_ret ?_ rfl (head_leaf2 hb)
    simp [results, Try.results70, go_sem, k]

set_option maxRecDepth 100000 in
set_option maxHeartbeats 2000000 in
theorem one_14_8 (d : Int) (dw : wideL d = 8) (d0 : 1 ≤ d) (d1 : d ≤ 8) (w : World) :
    Calls Try.prog 70 #[.int .i64 14, .int .i64 d] w (HeadIs w (oneL 14 d)) := by
  have eq : oneL 14 d = ([208, 208 + numL d], 0) := by simp [oneL, *, wb]
  rw [eq]
  clear eq
  obtain ⟨c1, c2, c3, c4, c5, c6, c7, c8, c9, c0⟩ := one_consts
  have nd0 := numL_lo d
  have nd1 := numL_hi d
  have qd1 := or176 _ nd0 nd1
  have qd2 := or184 _ nd0 nd1
  obtain ⟨r1, r2, r3, r4⟩ := or64 _ nd0 nd1
  go_enter Try.func70, Try.ntmps70
  go_wp2_with (first
    | (go_at_call 94; refine (wide_any _ _).mono ?_; rintro e w' ⟨rfl, rfl⟩)
    | (go_at_call 96; refine (num_any _ (by omega) (by omega) _).mono ?_; rintro e w' ⟨rfl, rfl⟩)
    | (go_at_call 98; refine (mem_any _ _ (by omega) (by omega) (by omega) (by omega) _).mono ?_; rintro e w' ⟨rfl, rfl⟩)
    | (go_at_call 95; refine (rm_any _ _ (by omega) (by omega) (by omega) (by omega) _).mono ?_; rintro e w' ⟨rfl, rfl⟩)
    | (go_at_call 71; refine (of_any _ _ _ _ _).mono ?_; rintro e w1 ⟨rfl, hb⟩; have k := res2 hb; obtain ⟨hc, hf⟩ := bcell hb))
  all_goals
    refine bodyPost_ret ?_ rfl (head_leaf2 hb)
    simp [results, Try.results70, go_sem, k]

set_option maxRecDepth 100000 in
set_option maxHeartbeats 2000000 in
theorem one_15_8 (d : Int) (dw : wideL d = 8) (d0 : 1 ≤ d) (d1 : d ≤ 8) (w : World) :
    Calls Try.prog 70 #[.int .i64 15, .int .i64 d] w (HeadIs w (oneL 15 d)) := by
  have eq : oneL 15 d = ([208, 216 + numL d], 0) := by simp [oneL, *, wb]
  rw [eq]
  clear eq
  obtain ⟨c1, c2, c3, c4, c5, c6, c7, c8, c9, c0⟩ := one_consts
  have nd0 := numL_lo d
  have nd1 := numL_hi d
  have qd1 := or176 _ nd0 nd1
  have qd2 := or184 _ nd0 nd1
  obtain ⟨r1, r2, r3, r4⟩ := or64 _ nd0 nd1
  go_enter Try.func70, Try.ntmps70
  go_wp2_with (first
    | (go_at_call 94; refine (wide_any _ _).mono ?_; rintro e w' ⟨rfl, rfl⟩)
    | (go_at_call 96; refine (num_any _ (by omega) (by omega) _).mono ?_; rintro e w' ⟨rfl, rfl⟩)
    | (go_at_call 98; refine (mem_any _ _ (by omega) (by omega) (by omega) (by omega) _).mono ?_; rintro e w' ⟨rfl, rfl⟩)
    | (go_at_call 95; refine (rm_any _ _ (by omega) (by omega) (by omega) (by omega) _).mono ?_; rintro e w' ⟨rfl, rfl⟩)
    | (go_at_call 71; refine (of_any _ _ _ _ _).mono ?_; rintro e w1 ⟨rfl, hb⟩; have k := res2 hb; obtain ⟨hc, hf⟩ := bcell hb))
  all_goals
    refine bodyPost_ret ?_ rfl (head_leaf2 hb)
    simp [results, Try.results70, go_sem, k]

set_option maxRecDepth 100000 in
set_option maxHeartbeats 2000000 in
theorem one_16_8 (d : Int) (dw : wideL d = 8) (d0 : 1 ≤ d) (d1 : d ≤ 8) (w : World) :
    Calls Try.prog 70 #[.int .i64 16, .int .i64 d] w (HeadIs w (oneL 16 d)) := by
  have eq : oneL 16 d = ([246, 208 + numL d], 0) := by simp [oneL, *, wb]
  rw [eq]
  clear eq
  obtain ⟨c1, c2, c3, c4, c5, c6, c7, c8, c9, c0⟩ := one_consts
  have nd0 := numL_lo d
  have nd1 := numL_hi d
  have qd1 := or176 _ nd0 nd1
  have qd2 := or184 _ nd0 nd1
  obtain ⟨r1, r2, r3, r4⟩ := or64 _ nd0 nd1
  go_enter Try.func70, Try.ntmps70
  go_wp2_with (first
    | (go_at_call 94; refine (wide_any _ _).mono ?_; rintro e w' ⟨rfl, rfl⟩)
    | (go_at_call 96; refine (num_any _ (by omega) (by omega) _).mono ?_; rintro e w' ⟨rfl, rfl⟩)
    | (go_at_call 98; refine (mem_any _ _ (by omega) (by omega) (by omega) (by omega) _).mono ?_; rintro e w' ⟨rfl, rfl⟩)
    | (go_at_call 95; refine (rm_any _ _ (by omega) (by omega) (by omega) (by omega) _).mono ?_; rintro e w' ⟨rfl, rfl⟩)
    | (go_at_call 71; refine (of_any _ _ _ _ _).mono ?_; rintro e w1 ⟨rfl, hb⟩; have k := res2 hb; obtain ⟨hc, hf⟩ := bcell hb))
  all_goals
    refine bodyPost_ret ?_ rfl (head_leaf2 hb)
    simp [results, Try.results70, go_sem, k]

set_option maxRecDepth 100000 in
set_option maxHeartbeats 2000000 in
theorem one_17_8 (d : Int) (dw : wideL d = 8) (d0 : 1 ≤ d) (d1 : d ≤ 8) (w : World) :
    Calls Try.prog 70 #[.int .i64 17, .int .i64 d] w (HeadIs w (oneL 17 d)) := by
  have eq : oneL 17 d = ([], 0) := by simp [oneL, *, wb]
  rw [eq]
  clear eq
  obtain ⟨c1, c2, c3, c4, c5, c6, c7, c8, c9, c0⟩ := one_consts
  have nd0 := numL_lo d
  have nd1 := numL_hi d
  have qd1 := or176 _ nd0 nd1
  have qd2 := or184 _ nd0 nd1
  obtain ⟨r1, r2, r3, r4⟩ := or64 _ nd0 nd1
  go_enter Try.func70, Try.ntmps70
  go_wp2_with (first
    | (go_at_call 94; refine (wide_any _ _).mono ?_; rintro e w' ⟨rfl, rfl⟩)
    | (go_at_call 96; refine (num_any _ (by omega) (by omega) _).mono ?_; rintro e w' ⟨rfl, rfl⟩)
    | (go_at_call 98; refine (mem_any _ _ (by omega) (by omega) (by omega) (by omega) _).mono ?_; rintro e w' ⟨rfl, rfl⟩)
    | (go_at_call 95; refine (rm_any _ _ (by omega) (by omega) (by omega) (by omega) _).mono ?_; rintro e w' ⟨rfl, rfl⟩)
    | (go_at_call 71; refine (of_any _ _ _ _ _).mono ?_; rintro e w1 ⟨rfl, hb⟩; have k := res2 hb; obtain ⟨hc, hf⟩ := bcell hb))
  all_goals
    refine bodyPost_ret ?_ rfl (head_none (balloc (Below.refl _ _) _))
    simp [results, Try.results70, go_sem]

set_option maxRecDepth 100000 in
set_option maxHeartbeats 2000000 in
theorem one_18_8 (d : Int) (dw : wideL d = 8) (d0 : 1 ≤ d) (d1 : d ≤ 8) (w : World) :
    Calls Try.prog 70 #[.int .i64 18, .int .i64 d] w (HeadIs w (oneL 18 d)) := by
  have eq : oneL 18 d = ([], 0) := by simp [oneL, *, wb]
  rw [eq]
  clear eq
  obtain ⟨c1, c2, c3, c4, c5, c6, c7, c8, c9, c0⟩ := one_consts
  have nd0 := numL_lo d
  have nd1 := numL_hi d
  have qd1 := or176 _ nd0 nd1
  have qd2 := or184 _ nd0 nd1
  obtain ⟨r1, r2, r3, r4⟩ := or64 _ nd0 nd1
  go_enter Try.func70, Try.ntmps70
  go_wp2_with (first
    | (go_at_call 94; refine (wide_any _ _).mono ?_; rintro e w' ⟨rfl, rfl⟩)
    | (go_at_call 96; refine (num_any _ (by omega) (by omega) _).mono ?_; rintro e w' ⟨rfl, rfl⟩)
    | (go_at_call 98; refine (mem_any _ _ (by omega) (by omega) (by omega) (by omega) _).mono ?_; rintro e w' ⟨rfl, rfl⟩)
    | (go_at_call 95; refine (rm_any _ _ (by omega) (by omega) (by omega) (by omega) _).mono ?_; rintro e w' ⟨rfl, rfl⟩)
    | (go_at_call 71; refine (of_any _ _ _ _ _).mono ?_; rintro e w1 ⟨rfl, hb⟩; have k := res2 hb; obtain ⟨hc, hf⟩ := bcell hb))
  all_goals
    refine bodyPost_ret ?_ rfl (head_none (balloc (Below.refl _ _) _))
    simp [results, Try.results70, go_sem]

set_option maxRecDepth 100000 in
set_option maxHeartbeats 2000000 in
theorem one_19_8 (d : Int) (dw : wideL d = 8) (d0 : 1 ≤ d) (d1 : d ≤ 8) (w : World) :
    Calls Try.prog 70 #[.int .i64 19, .int .i64 d] w (HeadIs w (oneL 19 d)) := by
  have eq : oneL 19 d = ([], 0) := by simp [oneL, *, wb]
  rw [eq]
  clear eq
  obtain ⟨c1, c2, c3, c4, c5, c6, c7, c8, c9, c0⟩ := one_consts
  have nd0 := numL_lo d
  have nd1 := numL_hi d
  have qd1 := or176 _ nd0 nd1
  have qd2 := or184 _ nd0 nd1
  obtain ⟨r1, r2, r3, r4⟩ := or64 _ nd0 nd1
  go_enter Try.func70, Try.ntmps70
  go_wp2_with (first
    | (go_at_call 94; refine (wide_any _ _).mono ?_; rintro e w' ⟨rfl, rfl⟩)
    | (go_at_call 96; refine (num_any _ (by omega) (by omega) _).mono ?_; rintro e w' ⟨rfl, rfl⟩)
    | (go_at_call 98; refine (mem_any _ _ (by omega) (by omega) (by omega) (by omega) _).mono ?_; rintro e w' ⟨rfl, rfl⟩)
    | (go_at_call 95; refine (rm_any _ _ (by omega) (by omega) (by omega) (by omega) _).mono ?_; rintro e w' ⟨rfl, rfl⟩)
    | (go_at_call 71; refine (of_any _ _ _ _ _).mono ?_; rintro e w1 ⟨rfl, hb⟩; have k := res2 hb; obtain ⟨hc, hf⟩ := bcell hb))
  all_goals
    refine bodyPost_ret ?_ rfl (head_none (balloc (Below.refl _ _) _))
    simp [results, Try.results70, go_sem]

set_option maxRecDepth 100000 in
set_option maxHeartbeats 2000000 in
theorem one_10_16 (d : Int) (dw : wideL d = 16) (d0 : 9 ≤ d) (d1 : d ≤ 16) (xd17 : ¬ d = 17) (w : World) :
    Calls Try.prog 70 #[.int .i64 10, .int .i64 d] w (HeadIs w (oneL 10 d)) := by
  have eq : oneL 10 d = ([64 + numL d], 0) := by simp [oneL, *, wb]
  rw [eq]
  clear eq
  obtain ⟨c1, c2, c3, c4, c5, c6, c7, c8, c9, c0⟩ := one_consts
  have nd0 := numL_lo d
  have nd1 := numL_hi d
  have qd1 := or176 _ nd0 nd1
  have qd2 := or184 _ nd0 nd1
  obtain ⟨r1, r2, r3, r4⟩ := or64 _ nd0 nd1
  go_enter Try.func70, Try.ntmps70
  go_wp2_with (first
    | (go_at_call 94; refine (wide_any _ _).mono ?_; rintro e w' ⟨rfl, rfl⟩)
    | (go_at_call 96; refine (num_any _ (by omega) (by omega) _).mono ?_; rintro e w' ⟨rfl, rfl⟩)
    | (go_at_call 98; refine (mem_any _ _ (by omega) (by omega) (by omega) (by omega) _).mono ?_; rintro e w' ⟨rfl, rfl⟩)
    | (go_at_call 95; refine (rm_any _ _ (by omega) (by omega) (by omega) (by omega) _).mono ?_; rintro e w' ⟨rfl, rfl⟩)
    | (go_at_call 71; refine (of_any _ _ _ _ _).mono ?_; rintro e w1 ⟨rfl, hb⟩; have k := res2 hb; obtain ⟨hc, hf⟩ := bcell hb))
  all_goals
    refine bodyPost_ret ?_ rfl (head_leaf1 hb)
    simp [results, Try.results70, go_sem, k]

set_option maxRecDepth 100000 in
set_option maxHeartbeats 2000000 in
theorem one_11_16 (d : Int) (dw : wideL d = 16) (d0 : 9 ≤ d) (d1 : d ≤ 16) (xd17 : ¬ d = 17) (w : World) :
    Calls Try.prog 70 #[.int .i64 11, .int .i64 d] w (HeadIs w (oneL 11 d)) := by
  have eq : oneL 11 d = ([72 + numL d], 0) := by simp [oneL, *, wb]
  rw [eq]
  clear eq
  obtain ⟨c1, c2, c3, c4, c5, c6, c7, c8, c9, c0⟩ := one_consts
  have nd0 := numL_lo d
  have nd1 := numL_hi d
  have qd1 := or176 _ nd0 nd1
  have qd2 := or184 _ nd0 nd1
  obtain ⟨r1, r2, r3, r4⟩ := or64 _ nd0 nd1
  go_enter Try.func70, Try.ntmps70
  go_wp2_with (first
    | (go_at_call 94; refine (wide_any _ _).mono ?_; rintro e w' ⟨rfl, rfl⟩)
    | (go_at_call 96; refine (num_any _ (by omega) (by omega) _).mono ?_; rintro e w' ⟨rfl, rfl⟩)
    | (go_at_call 98; refine (mem_any _ _ (by omega) (by omega) (by omega) (by omega) _).mono ?_; rintro e w' ⟨rfl, rfl⟩)
    | (go_at_call 95; refine (rm_any _ _ (by omega) (by omega) (by omega) (by omega) _).mono ?_; rintro e w' ⟨rfl, rfl⟩)
    | (go_at_call 71; refine (of_any _ _ _ _ _).mono ?_; rintro e w1 ⟨rfl, hb⟩; have k := res2 hb; obtain ⟨hc, hf⟩ := bcell hb))
  all_goals
    refine bodyPost_ret ?_ rfl (head_leaf1 hb)
    simp [results, Try.results70, go_sem, k]

set_option maxRecDepth 100000 in
set_option maxHeartbeats 2000000 in
theorem one_12_16 (d : Int) (dw : wideL d = 16) (d0 : 9 ≤ d) (d1 : d ≤ 16) (w : World) :
    Calls Try.prog 70 #[.int .i64 12, .int .i64 d] w (HeadIs w (oneL 12 d)) := by
  have eq : oneL 12 d = ([209, 192 + numL d], 0) := by simp [oneL, *, wb]
  rw [eq]
  clear eq
  obtain ⟨c1, c2, c3, c4, c5, c6, c7, c8, c9, c0⟩ := one_consts
  have nd0 := numL_lo d
  have nd1 := numL_hi d
  have qd1 := or176 _ nd0 nd1
  have qd2 := or184 _ nd0 nd1
  obtain ⟨r1, r2, r3, r4⟩ := or64 _ nd0 nd1
  go_enter Try.func70, Try.ntmps70
  go_wp2_with (first
    | (go_at_call 94; refine (wide_any _ _).mono ?_; rintro e w' ⟨rfl, rfl⟩)
    | (go_at_call 96; refine (num_any _ (by omega) (by omega) _).mono ?_; rintro e w' ⟨rfl, rfl⟩)
    | (go_at_call 98; refine (mem_any _ _ (by omega) (by omega) (by omega) (by omega) _).mono ?_; rintro e w' ⟨rfl, rfl⟩)
    | (go_at_call 95; refine (rm_any _ _ (by omega) (by omega) (by omega) (by omega) _).mono ?_; rintro e w' ⟨rfl, rfl⟩)
    | (go_at_call 71; refine (of_any _ _ _ _ _).mono ?_; rintro e w1 ⟨rfl, hb⟩; have k := res2 hb; obtain ⟨hc, hf⟩ := bcell hb))
  all_goals
    refine bodyPost_ret ?_ rfl (head_leaf2 hb)
    simp [results, Try.results70, go_sem, k]

set_option maxRecDepth 100000 in
set_option maxHeartbeats 2000000 in
theorem one_13_16 (d : Int) (dw : wideL d = 16) (d0 : 9 ≤ d) (d1 : d ≤ 16) (w : World) :
    Calls Try.prog 70 #[.int .i64 13, .int .i64 d] w (HeadIs w (oneL 13 d)) := by
  have eq : oneL 13 d = ([209, 200 + numL d], 0) := by simp [oneL, *, wb]
  rw [eq]
  clear eq
  obtain ⟨c1, c2, c3, c4, c5, c6, c7, c8, c9, c0⟩ := one_consts
  have nd0 := numL_lo d
  have nd1 := numL_hi d
  have qd1 := or176 _ nd0 nd1
  have qd2 := or184 _ nd0 nd1
  obtain ⟨r1, r2, r3, r4⟩ := or64 _ nd0 nd1
  go_enter Try.func70, Try.ntmps70
  go_wp2_with (first
    | (go_at_call 94; refine (wide_any _ _).mono ?_; rintro e w' ⟨rfl, rfl⟩)
    | (go_at_call 96; refine (num_any _ (by omega) (by omega) _).mono ?_; rintro e w' ⟨rfl, rfl⟩)
    | (go_at_call 98; refine (mem_any _ _ (by omega) (by omega) (by omega) (by omega) _).mono ?_; rintro e w' ⟨rfl, rfl⟩)
    | (go_at_call 95; refine (rm_any _ _ (by omega) (by omega) (by omega) (by omega) _).mono ?_; rintro e w' ⟨rfl, rfl⟩)
    | (go_at_call 71; refine (of_any _ _ _ _ _).mono ?_; rintro e w1 ⟨rfl, hb⟩; have k := res2 hb; obtain ⟨hc, hf⟩ := bcell hb))
  all_goals
    refine bodyPost_ret ?_ rfl (head_leaf2 hb)
    simp [results, Try.results70, go_sem, k]

set_option maxRecDepth 100000 in
set_option maxHeartbeats 2000000 in
theorem one_14_16 (d : Int) (dw : wideL d = 16) (d0 : 9 ≤ d) (d1 : d ≤ 16) (w : World) :
    Calls Try.prog 70 #[.int .i64 14, .int .i64 d] w (HeadIs w (oneL 14 d)) := by
  have eq : oneL 14 d = ([209, 208 + numL d], 0) := by simp [oneL, *, wb]
  rw [eq]
  clear eq
  obtain ⟨c1, c2, c3, c4, c5, c6, c7, c8, c9, c0⟩ := one_consts
  have nd0 := numL_lo d
  have nd1 := numL_hi d
  have qd1 := or176 _ nd0 nd1
  have qd2 := or184 _ nd0 nd1
  obtain ⟨r1, r2, r3, r4⟩ := or64 _ nd0 nd1
  go_enter Try.func70, Try.ntmps70
  go_wp2_with (first
    | (go_at_call 94; refine (wide_any _ _).mono ?_; rintro e w' ⟨rfl, rfl⟩)
    | (go_at_call 96; refine (num_any _ (by omega) (by omega) _).mono ?_; rintro e w' ⟨rfl, rfl⟩)
    | (go_at_call 98; refine (mem_any _ _ (by omega) (by omega) (by omega) (by omega) _).mono ?_; rintro e w' ⟨rfl, rfl⟩)
    | (go_at_call 95; refine (rm_any _ _ (by omega) (by omega) (by omega) (by omega) _).mono ?_; rintro e w' ⟨rfl, rfl⟩)
    | (go_at_call 71; refine (of_any _ _ _ _ _).mono ?_; rintro e w1 ⟨rfl, hb⟩; have k := res2 hb; obtain ⟨hc, hf⟩ := bcell hb))
  all_goals
    refine bodyPost_ret ?_ rfl (head_leaf2 hb)
    simp [results, Try.results70, go_sem, k]

set_option maxRecDepth 100000 in
set_option maxHeartbeats 2000000 in
theorem one_15_16 (d : Int) (dw : wideL d = 16) (d0 : 9 ≤ d) (d1 : d ≤ 16) (w : World) :
    Calls Try.prog 70 #[.int .i64 15, .int .i64 d] w (HeadIs w (oneL 15 d)) := by
  have eq : oneL 15 d = ([209, 216 + numL d], 0) := by simp [oneL, *, wb]
  rw [eq]
  clear eq
  obtain ⟨c1, c2, c3, c4, c5, c6, c7, c8, c9, c0⟩ := one_consts
  have nd0 := numL_lo d
  have nd1 := numL_hi d
  have qd1 := or176 _ nd0 nd1
  have qd2 := or184 _ nd0 nd1
  obtain ⟨r1, r2, r3, r4⟩ := or64 _ nd0 nd1
  go_enter Try.func70, Try.ntmps70
  go_wp2_with (first
    | (go_at_call 94; refine (wide_any _ _).mono ?_; rintro e w' ⟨rfl, rfl⟩)
    | (go_at_call 96; refine (num_any _ (by omega) (by omega) _).mono ?_; rintro e w' ⟨rfl, rfl⟩)
    | (go_at_call 98; refine (mem_any _ _ (by omega) (by omega) (by omega) (by omega) _).mono ?_; rintro e w' ⟨rfl, rfl⟩)
    | (go_at_call 95; refine (rm_any _ _ (by omega) (by omega) (by omega) (by omega) _).mono ?_; rintro e w' ⟨rfl, rfl⟩)
    | (go_at_call 71; refine (of_any _ _ _ _ _).mono ?_; rintro e w1 ⟨rfl, hb⟩; have k := res2 hb; obtain ⟨hc, hf⟩ := bcell hb))
  all_goals
    refine bodyPost_ret ?_ rfl (head_leaf2 hb)
    simp [results, Try.results70, go_sem, k]

set_option maxRecDepth 100000 in
set_option maxHeartbeats 2000000 in
theorem one_16_16 (d : Int) (dw : wideL d = 16) (d0 : 9 ≤ d) (d1 : d ≤ 16) (w : World) :
    Calls Try.prog 70 #[.int .i64 16, .int .i64 d] w (HeadIs w (oneL 16 d)) := by
  have eq : oneL 16 d = ([], 0) := by simp [oneL, *, wb]
  rw [eq]
  clear eq
  obtain ⟨c1, c2, c3, c4, c5, c6, c7, c8, c9, c0⟩ := one_consts
  have nd0 := numL_lo d
  have nd1 := numL_hi d
  have qd1 := or176 _ nd0 nd1
  have qd2 := or184 _ nd0 nd1
  obtain ⟨r1, r2, r3, r4⟩ := or64 _ nd0 nd1
  go_enter Try.func70, Try.ntmps70
  go_wp2_with (first
    | (go_at_call 94; refine (wide_any _ _).mono ?_; rintro e w' ⟨rfl, rfl⟩)
    | (go_at_call 96; refine (num_any _ (by omega) (by omega) _).mono ?_; rintro e w' ⟨rfl, rfl⟩)
    | (go_at_call 98; refine (mem_any _ _ (by omega) (by omega) (by omega) (by omega) _).mono ?_; rintro e w' ⟨rfl, rfl⟩)
    | (go_at_call 95; refine (rm_any _ _ (by omega) (by omega) (by omega) (by omega) _).mono ?_; rintro e w' ⟨rfl, rfl⟩)
    | (go_at_call 71; refine (of_any _ _ _ _ _).mono ?_; rintro e w1 ⟨rfl, hb⟩; have k := res2 hb; obtain ⟨hc, hf⟩ := bcell hb))
  all_goals
    refine bodyPost_ret ?_ rfl (head_none (balloc (Below.refl _ _) _))
    simp [results, Try.results70, go_sem]

set_option maxRecDepth 100000 in
set_option maxHeartbeats 2000000 in
theorem one_17_16 (d : Int) (dw : wideL d = 16) (d0 : 9 ≤ d) (d1 : d ≤ 16) (w : World) :
    Calls Try.prog 70 #[.int .i64 17, .int .i64 d] w (HeadIs w (oneL 17 d)) := by
  have eq : oneL 17 d = ([], 0) := by simp [oneL, *, wb]
  rw [eq]
  clear eq
  obtain ⟨c1, c2, c3, c4, c5, c6, c7, c8, c9, c0⟩ := one_consts
  have nd0 := numL_lo d
  have nd1 := numL_hi d
  have qd1 := or176 _ nd0 nd1
  have qd2 := or184 _ nd0 nd1
  obtain ⟨r1, r2, r3, r4⟩ := or64 _ nd0 nd1
  go_enter Try.func70, Try.ntmps70
  go_wp2_with (first
    | (go_at_call 94; refine (wide_any _ _).mono ?_; rintro e w' ⟨rfl, rfl⟩)
    | (go_at_call 96; refine (num_any _ (by omega) (by omega) _).mono ?_; rintro e w' ⟨rfl, rfl⟩)
    | (go_at_call 98; refine (mem_any _ _ (by omega) (by omega) (by omega) (by omega) _).mono ?_; rintro e w' ⟨rfl, rfl⟩)
    | (go_at_call 95; refine (rm_any _ _ (by omega) (by omega) (by omega) (by omega) _).mono ?_; rintro e w' ⟨rfl, rfl⟩)
    | (go_at_call 71; refine (of_any _ _ _ _ _).mono ?_; rintro e w1 ⟨rfl, hb⟩; have k := res2 hb; obtain ⟨hc, hf⟩ := bcell hb))
  all_goals
    refine bodyPost_ret ?_ rfl (head_none (balloc (Below.refl _ _) _))
    simp [results, Try.results70, go_sem]

set_option maxRecDepth 100000 in
set_option maxHeartbeats 2000000 in
theorem one_18_16 (d : Int) (dw : wideL d = 16) (d0 : 9 ≤ d) (d1 : d ≤ 16) (w : World) :
    Calls Try.prog 70 #[.int .i64 18, .int .i64 d] w (HeadIs w (oneL 18 d)) := by
  have eq : oneL 18 d = ([80 + numL d], 0) := by simp [oneL, *, wb]
  rw [eq]
  clear eq
  obtain ⟨c1, c2, c3, c4, c5, c6, c7, c8, c9, c0⟩ := one_consts
  have nd0 := numL_lo d
  have nd1 := numL_hi d
  have qd1 := or176 _ nd0 nd1
  have qd2 := or184 _ nd0 nd1
  obtain ⟨r1, r2, r3, r4⟩ := or64 _ nd0 nd1
  go_enter Try.func70, Try.ntmps70
  go_wp2_with (first
    | (go_at_call 94; refine (wide_any _ _).mono ?_; rintro e w' ⟨rfl, rfl⟩)
    | (go_at_call 96; refine (num_any _ (by omega) (by omega) _).mono ?_; rintro e w' ⟨rfl, rfl⟩)
    | (go_at_call 98; refine (mem_any _ _ (by omega) (by omega) (by omega) (by omega) _).mono ?_; rintro e w' ⟨rfl, rfl⟩)
    | (go_at_call 95; refine (rm_any _ _ (by omega) (by omega) (by omega) (by omega) _).mono ?_; rintro e w' ⟨rfl, rfl⟩)
    | (go_at_call 71; refine (of_any _ _ _ _ _).mono ?_; rintro e w1 ⟨rfl, hb⟩; have k := res2 hb; obtain ⟨hc, hf⟩ := bcell hb))
  all_goals
    refine bodyPost_ret ?_ rfl (head_leaf1 hb)
    simp [results, Try.results70, go_sem, k]

set_option maxRecDepth 100000 in
set_option maxHeartbeats 2000000 in
theorem one_19_16 (d : Int) (dw : wideL d = 16) (d0 : 9 ≤ d) (d1 : d ≤ 16) (w : World) :
    Calls Try.prog 70 #[.int .i64 19, .int .i64 d] w (HeadIs w (oneL 19 d)) := by
  have eq : oneL 19 d = ([88 + numL d], 0) := by simp [oneL, *, wb]
  rw [eq]
  clear eq
  obtain ⟨c1, c2, c3, c4, c5, c6, c7, c8, c9, c0⟩ := one_consts
  have nd0 := numL_lo d
  have nd1 := numL_hi d
  have qd1 := or176 _ nd0 nd1
  have qd2 := or184 _ nd0 nd1
  obtain ⟨r1, r2, r3, r4⟩ := or64 _ nd0 nd1
  go_enter Try.func70, Try.ntmps70
  go_wp2_with (first
    | (go_at_call 94; refine (wide_any _ _).mono ?_; rintro e w' ⟨rfl, rfl⟩)
    | (go_at_call 96; refine (num_any _ (by omega) (by omega) _).mono ?_; rintro e w' ⟨rfl, rfl⟩)
    | (go_at_call 98; refine (mem_any _ _ (by omega) (by omega) (by omega) (by omega) _).mono ?_; rintro e w' ⟨rfl, rfl⟩)
    | (go_at_call 95; refine (rm_any _ _ (by omega) (by omega) (by omega) (by omega) _).mono ?_; rintro e w' ⟨rfl, rfl⟩)
    | (go_at_call 71; refine (of_any _ _ _ _ _).mono ?_; rintro e w1 ⟨rfl, hb⟩; have k := res2 hb; obtain ⟨hc, hf⟩ := bcell hb))
  all_goals
    refine bodyPost_ret ?_ rfl (head_leaf1 hb)
    simp [results, Try.results70, go_sem, k]

set_option maxRecDepth 100000 in
set_option maxHeartbeats 2000000 in
theorem one_10_0 (d : Int) (dw : wideL d = 0) (xd17 : ¬ d = 17) (w : World) :
    Calls Try.prog 70 #[.int .i64 10, .int .i64 d] w (HeadIs w (oneL 10 d)) := by
  have eq : oneL 10 d = ([], 0) := by simp [oneL, *, wb]
  rw [eq]
  clear eq
  obtain ⟨c1, c2, c3, c4, c5, c6, c7, c8, c9, c0⟩ := one_consts
  go_enter Try.func70, Try.ntmps70
  go_wp2_with (first
    | (go_at_call 94; refine (wide_any _ _).mono ?_; rintro e w' ⟨rfl, rfl⟩)
    | (go_at_call 96; refine (num_any _ (by omega) (by omega) _).mono ?_; rintro e w' ⟨rfl, rfl⟩)
    | (go_at_call 98; refine (mem_any _ _ (by omega) (by omega) (by omega) (by omega) _).mono ?_; rintro e w' ⟨rfl, rfl⟩)
    | (go_at_call 95; refine (rm_any _ _ (by omega) (by omega) (by omega) (by omega) _).mono ?_; rintro e w' ⟨rfl, rfl⟩)
    | (go_at_call 71; refine (of_any _ _ _ _ _).mono ?_; rintro e w1 ⟨rfl, hb⟩; have k := res2 hb; obtain ⟨hc, hf⟩ := bcell hb))
  all_goals
    refine bodyPost_ret ?_ rfl (head_none (balloc (Below.refl _ _) _))
    simp [results, Try.results70, go_sem]

set_option maxRecDepth 100000 in
set_option maxHeartbeats 2000000 in
theorem one_10_17   (w : World) :
    Calls Try.prog 70 #[.int .i64 10, .int .i64 17] w (HeadIs w (oneL 10 17)) := by
  have eq : oneL 10 17 = ([254, 7], 0) := by simp [oneL, *, wb, show wideL 17 = 0 by decide]
  rw [eq]
  clear eq
  obtain ⟨c1, c2, c3, c4, c5, c6, c7, c8, c9, c0⟩ := one_consts
  have lw17 : wideL 17 = 0 := by decide
  go_enter Try.func70, Try.ntmps70
  go_wp2_with (first
    | (go_at_call 94; refine (wide_any _ _).mono ?_; rintro e w' ⟨rfl, rfl⟩)
    | (go_at_call 96; refine (num_any _ (by omega) (by omega) _).mono ?_; rintro e w' ⟨rfl, rfl⟩)
    | (go_at_call 98; refine (mem_any _ _ (by omega) (by omega) (by omega) (by omega) _).mono ?_; rintro e w' ⟨rfl, rfl⟩)
    | (go_at_call 95; refine (rm_any _ _ (by omega) (by omega) (by omega) (by omega) _).mono ?_; rintro e w' ⟨rfl, rfl⟩)
    | (go_at_call 71; refine (of_any _ _ _ _ _).mono ?_; rintro e w1 ⟨rfl, hb⟩; have k := res2 hb; obtain ⟨hc, hf⟩ := bcell hb))
  all_goals
    refine bodyPost_ret ?_ rfl (head_leaf2 hb)
    simp [results, Try.results70, go_sem, k]

set_option maxRecDepth 100000 in
set_option maxHeartbeats 2000000 in
theorem one_11_0 (d : Int) (dw : wideL d = 0) (xd17 : ¬ d = 17) (w : World) :
    Calls Try.prog 70 #[.int .i64 11, .int .i64 d] w (HeadIs w (oneL 11 d)) := by
  have eq : oneL 11 d = ([], 0) := by simp [oneL, *, wb]
  rw [eq]
  clear eq
  obtain ⟨c1, c2, c3, c4, c5, c6, c7, c8, c9, c0⟩ := one_consts
  go_enter Try.func70, Try.ntmps70
  go_wp2_with (first
    | (go_at_call 94; refine (wide_any _ _).mono ?_; rintro e w' ⟨rfl, rfl⟩)
    | (go_at_call 96; refine (num_any _ (by omega) (by omega) _).mono ?_; rintro e w' ⟨rfl, rfl⟩)
    | (go_at_call 98; refine (mem_any _ _ (by omega) (by omega) (by omega) (by omega) _).mono ?_; rintro e w' ⟨rfl, rfl⟩)
    | (go_at_call 95; refine (rm_any _ _ (by omega) (by omega) (by omega) (by omega) _).mono ?_; rintro e w' ⟨rfl, rfl⟩)
    | (go_at_call 71; refine (of_any _ _ _ _ _).mono ?_; rintro e w1 ⟨rfl, hb⟩; have k := res2 hb; obtain ⟨hc, hf⟩ := bcell hb))
  all_goals
    refine bodyPost_ret ?_ rfl (head_none (balloc (Below.refl _ _) _))
    simp [results, Try.results70, go_sem]

set_option maxRecDepth 100000 in
set_option maxHeartbeats 2000000 in
theorem one_11_17   (w : World) :
    Calls Try.prog 70 #[.int .i64 11, .int .i64 17] w (HeadIs w (oneL 11 17)) := by
  have eq : oneL 11 17 = ([254, 15], 0) := by simp [oneL, *, wb, show wideL 17 = 0 by decide]
  rw [eq]
  clear eq
  obtain ⟨c1, c2, c3, c4, c5, c6, c7, c8, c9, c0⟩ := one_consts
  have lw17 : wideL 17 = 0 := by decide
  go_enter Try.func70, Try.ntmps70
  go_wp2_with (first
    | (go_at_call 94; refine (wide_any _ _).mono ?_; rintro e w' ⟨rfl, rfl⟩)
    | (go_at_call 96; refine (num_any _ (by omega) (by omega) _).mono ?_; rintro e w' ⟨rfl, rfl⟩)
    | (go_at_call 98; refine (mem_any _ _ (by omega) (by omega) (by omega) (by omega) _).mono ?_; rintro e w' ⟨rfl, rfl⟩)
    | (go_at_call 95; refine (rm_any _ _ (by omega) (by omega) (by omega) (by omega) _).mono ?_; rintro e w' ⟨rfl, rfl⟩)
    | (go_at_call 71; refine (of_any _ _ _ _ _).mono ?_; rintro e w1 ⟨rfl, hb⟩; have k := res2 hb; obtain ⟨hc, hf⟩ := bcell hb))
  all_goals
    refine bodyPost_ret ?_ rfl (head_leaf2 hb)
    simp [results, Try.results70, go_sem, k]

set_option maxRecDepth 100000 in
set_option maxHeartbeats 2000000 in
theorem one_12_0 (d : Int) (dw : wideL d = 0) (w : World) :
    Calls Try.prog 70 #[.int .i64 12, .int .i64 d] w (HeadIs w (oneL 12 d)) := by
  have eq : oneL 12 d = ([], 0) := by simp [oneL, *, wb]
  rw [eq]
  clear eq
  obtain ⟨c1, c2, c3, c4, c5, c6, c7, c8, c9, c0⟩ := one_consts
  go_enter Try.func70, Try.ntmps70
  go_wp2_with (first
    | (go_at_call 94; refine (wide_any _ _).mono ?_; rintro e w' ⟨rfl, rfl⟩)
    | (go_at_call 96; refine (num_any _ (by omega) (by omega) _).mono ?_; rintro e w' ⟨rfl, rfl⟩)
    | (go_at_call 98; refine (mem_any _ _ (by omega) (by omega) (by omega) (by omega) _).mono ?_; rintro e w' ⟨rfl, rfl⟩)
    | (go_at_call 95; refine (rm_any _ _ (by omega) (by omega) (by omega) (by omega) _).mono ?_; rintro e w' ⟨rfl, rfl⟩)
    | (go_at_call 71; refine (of_any _ _ _ _ _).mono ?_; rintro e w1 ⟨rfl, hb⟩; have k := res2 hb; obtain ⟨hc, hf⟩ := bcell hb))
  all_goals
    refine bodyPost_ret ?_ rfl (head_none (balloc (Below.refl _ _) _))
    simp [results, Try.results70, go_sem]

set_option maxRecDepth 100000 in
set_option maxHeartbeats 2000000 in
theorem one_13_0 (d : Int) (dw : wideL d = 0) (w : World) :
    Calls Try.prog 70 #[.int .i64 13, .int .i64 d] w (HeadIs w (oneL 13 d)) := by
  have eq : oneL 13 d = ([], 0) := by simp [oneL, *, wb]
  rw [eq]
  clear eq
  obtain ⟨c1, c2, c3, c4, c5, c6, c7, c8, c9, c0⟩ := one_consts
  go_enter Try.func70, Try.ntmps70
  go_wp2_with (first
    | (go_at_call 94; refine (wide_any _ _).mono ?_; rintro e w' ⟨rfl, rfl⟩)
    | (go_at_call 96; refine (num_any _ (by omega) (by omega) _).mono ?_; rintro e w' ⟨rfl, rfl⟩)
    | (go_at_call 98; refine (mem_any _ _ (by omega) (by omega) (by omega) (by omega) _).mono ?_; rintro e w' ⟨rfl, rfl⟩)
    | (go_at_call 95; refine (rm_any _ _ (by omega) (by omega) (by omega) (by omega) _).mono ?_; rintro e w' ⟨rfl, rfl⟩)
    | (go_at_call 71; refine (of_any _ _ _ _ _).mono ?_; rintro e w1 ⟨rfl, hb⟩; have k := res2 hb; obtain ⟨hc, hf⟩ := bcell hb))
  all_goals
    refine bodyPost_ret ?_ rfl (head_none (balloc (Below.refl _ _) _))
    simp [results, Try.results70, go_sem]

set_option maxRecDepth 100000 in
set_option maxHeartbeats 2000000 in
theorem one_14_0 (d : Int) (dw : wideL d = 0) (w : World) :
    Calls Try.prog 70 #[.int .i64 14, .int .i64 d] w (HeadIs w (oneL 14 d)) := by
  have eq : oneL 14 d = ([], 0) := by simp [oneL, *, wb]
  rw [eq]
  clear eq
  obtain ⟨c1, c2, c3, c4, c5, c6, c7, c8, c9, c0⟩ := one_consts
  go_enter Try.func70, Try.ntmps70
  go_wp2_with (first
    | (go_at_call 94; refine (wide_any _ _).mono ?_; rintro e w' ⟨rfl, rfl⟩)
    | (go_at_call 96; refine (num_any _ (by omega) (by omega) _).mono ?_; rintro e w' ⟨rfl, rfl⟩)
    | (go_at_call 98; refine (mem_any _ _ (by omega) (by omega) (by omega) (by omega) _).mono ?_; rintro e w' ⟨rfl, rfl⟩)
    | (go_at_call 95; refine (rm_any _ _ (by omega) (by omega) (by omega) (by omega) _).mono ?_; rintro e w' ⟨rfl, rfl⟩)
    | (go_at_call 71; refine (of_any _ _ _ _ _).mono ?_; rintro e w1 ⟨rfl, hb⟩; have k := res2 hb; obtain ⟨hc, hf⟩ := bcell hb))
  all_goals
    refine bodyPost_ret ?_ rfl (head_none (balloc (Below.refl _ _) _))
    simp [results, Try.results70, go_sem]

set_option maxRecDepth 100000 in
set_option maxHeartbeats 2000000 in
theorem one_15_0 (d : Int) (dw : wideL d = 0) (w : World) :
    Calls Try.prog 70 #[.int .i64 15, .int .i64 d] w (HeadIs w (oneL 15 d)) := by
  have eq : oneL 15 d = ([], 0) := by simp [oneL, *, wb]
  rw [eq]
  clear eq
  obtain ⟨c1, c2, c3, c4, c5, c6, c7, c8, c9, c0⟩ := one_consts
  go_enter Try.func70, Try.ntmps70
  go_wp2_with (first
    | (go_at_call 94; refine (wide_any _ _).mono ?_; rintro e w' ⟨rfl, rfl⟩)
    | (go_at_call 96; refine (num_any _ (by omega) (by omega) _).mono ?_; rintro e w' ⟨rfl, rfl⟩)
    | (go_at_call 98; refine (mem_any _ _ (by omega) (by omega) (by omega) (by omega) _).mono ?_; rintro e w' ⟨rfl, rfl⟩)
    | (go_at_call 95; refine (rm_any _ _ (by omega) (by omega) (by omega) (by omega) _).mono ?_; rintro e w' ⟨rfl, rfl⟩)
    | (go_at_call 71; refine (of_any _ _ _ _ _).mono ?_; rintro e w1 ⟨rfl, hb⟩; have k := res2 hb; obtain ⟨hc, hf⟩ := bcell hb))
  all_goals
    refine bodyPost_ret ?_ rfl (head_none (balloc (Below.refl _ _) _))
    simp [results, Try.results70, go_sem]

set_option maxRecDepth 100000 in
set_option maxHeartbeats 2000000 in
theorem one_16_0 (d : Int) (dw : wideL d = 0) (w : World) :
    Calls Try.prog 70 #[.int .i64 16, .int .i64 d] w (HeadIs w (oneL 16 d)) := by
  have eq : oneL 16 d = ([], 0) := by simp [oneL, *, wb]
  rw [eq]
  clear eq
  obtain ⟨c1, c2, c3, c4, c5, c6, c7, c8, c9, c0⟩ := one_consts
  go_enter Try.func70, Try.ntmps70
  go_wp2_with (first
    | (go_at_call 94; refine (wide_any _ _).mono ?_; rintro e w' ⟨rfl, rfl⟩)
    | (go_at_call 96; refine (num_any _ (by omega) (by omega) _).mono ?_; rintro e w' ⟨rfl, rfl⟩)
    | (go_at_call 98; refine (mem_any _ _ (by omega) (by omega) (by omega) (by omega) _).mono ?_; rintro e w' ⟨rfl, rfl⟩)
    | (go_at_call 95; refine (rm_any _ _ (by omega) (by omega) (by omega) (by omega) _).mono ?_; rintro e w' ⟨rfl, rfl⟩)
    | (go_at_call 71; refine (of_any _ _ _ _ _).mono ?_; rintro e w1 ⟨rfl, hb⟩; have k := res2 hb; obtain ⟨hc, hf⟩ := bcell hb))
  all_goals
    refine bodyPost_ret ?_ rfl (head_none (balloc (Below.refl _ _) _))
    simp [results, Try.results70, go_sem]

set_option maxRecDepth 100000 in
set_option maxHeartbeats 2000000 in
theorem one_17_0 (d : Int) (dw : wideL d = 0) (w : World) :
    Calls Try.prog 70 #[.int .i64 17, .int .i64 d] w (HeadIs w (oneL 17 d)) := by
  have eq : oneL 17 d = ([], 0) := by simp [oneL, *, wb]
  rw [eq]
  clear eq
  obtain ⟨c1, c2, c3, c4, c5, c6, c7, c8, c9, c0⟩ := one_consts
  go_enter Try.func70, Try.ntmps70
  go_wp2_with (first
    | (go_at_call 94; refine (wide_any _ _).mono ?_; rintro e w' ⟨rfl, rfl⟩)
    | (go_at_call 96; refine (num_any _ (by omega) (by omega) _).mono ?_; rintro e w' ⟨rfl, rfl⟩)
    | (go_at_call 98; refine (mem_any _ _ (by omega) (by omega) (by omega) (by omega) _).mono ?_; rintro e w' ⟨rfl, rfl⟩)
    | (go_at_call 95; refine (rm_any _ _ (by omega) (by omega) (by omega) (by omega) _).mono ?_; rintro e w' ⟨rfl, rfl⟩)
    | (go_at_call 71; refine (of_any _ _ _ _ _).mono ?_; rintro e w1 ⟨rfl, hb⟩; have k := res2 hb; obtain ⟨hc, hf⟩ := bcell hb))
  all_goals
    refine bodyPost_ret ?_ rfl (head_none (balloc (Below.refl _ _) _))
    simp [results, Try.results70, go_sem]

set_option maxRecDepth 100000 in
set_option maxHeartbeats 2000000 in
theorem one_18_0 (d : Int) (dw : wideL d = 0) (w : World) :
    Calls Try.prog 70 #[.int .i64 18, .int .i64 d] w (HeadIs w (oneL 18 d)) := by
  have eq : oneL 18 d = ([], 0) := by simp [oneL, *, wb]
  rw [eq]
  clear eq
  obtain ⟨c1, c2, c3, c4, c5, c6, c7, c8, c9, c0⟩ := one_consts
  go_enter Try.func70, Try.ntmps70
  go_wp2_with (first
    | (go_at_call 94; refine (wide_any _ _).mono ?_; rintro e w' ⟨rfl, rfl⟩)
    | (go_at_call 96; refine (num_any _ (by omega) (by omega) _).mono ?_; rintro e w' ⟨rfl, rfl⟩)
    | (go_at_call 98; refine (mem_any _ _ (by omega) (by omega) (by omega) (by omega) _).mono ?_; rintro e w' ⟨rfl, rfl⟩)
    | (go_at_call 95; refine (rm_any _ _ (by omega) (by omega) (by omega) (by omega) _).mono ?_; rintro e w' ⟨rfl, rfl⟩)
    | (go_at_call 71; refine (of_any _ _ _ _ _).mono ?_; rintro e w1 ⟨rfl, hb⟩; have k := res2 hb; obtain ⟨hc, hf⟩ := bcell hb))
  all_goals
    refine bodyPost_ret ?_ rfl (head_none (balloc (Below.refl _ _) _))
    simp [results, Try.results70, go_sem]

set_option maxRecDepth 100000 in
set_option maxHeartbeats 2000000 in
theorem one_19_0 (d : Int) (dw : wideL d = 0) (w : World) :
    Calls Try.prog 70 #[.int .i64 19, .int .i64 d] w (HeadIs w (oneL 19 d)) := by
  have eq : oneL 19 d = ([], 0) := by simp [oneL, *, wb]
  rw [eq]
  clear eq
  obtain ⟨c1, c2, c3, c4, c5, c6, c7, c8, c9, c0⟩ := one_consts
  go_enter Try.func70, Try.ntmps70
  go_wp2_with (first
    | (go_at_call 94; refine (wide_any _ _).mono ?_; rintro e w' ⟨rfl, rfl⟩)
    | (go_at_call 96; refine (num_any _ (by omega) (by omega) _).mono ?_; rintro e w' ⟨rfl, rfl⟩)
    | (go_at_call 98; refine (mem_any _ _ (by omega) (by omega) (by omega) (by omega) _).mono ?_; rintro e w' ⟨rfl, rfl⟩)
    | (go_at_call 95; refine (rm_any _ _ (by omega) (by omega) (by omega) (by omega) _).mono ?_; rintro e w' ⟨rfl, rfl⟩)
    | (go_at_call 71; refine (of_any _ _ _ _ _).mono ?_; rintro e w1 ⟨rfl, hb⟩; have k := res2 hb; obtain ⟨hc, hf⟩ := bcell hb))
  all_goals
    refine bodyPost_ret ?_ rfl (head_none (balloc (Below.refl _ _) _))
    simp [results, Try.results70, go_sem]

theorem one_any (op d : Int) (p0 : 10 ≤ op) (p1 : op ≤ 19) (w : World) : Calls Try.prog 70 #[.int .i64 op, .int .i64 d] w (HeadIs w (oneL op d)) := by
  have h : op = 10 ∨ op = 11 ∨ op = 12 ∨ op = 13 ∨ op = 14 ∨ op = 15 ∨ op = 16 ∨ op = 17 ∨ op = 18 ∨ op = 19 := by omega
  rcases wide_cases d with ⟨dw, d0, d1⟩ | ⟨dw, d0, d1⟩ | ⟨dw, _⟩
  · rcases h with rfl | rfl | rfl | rfl | rfl | rfl | rfl | rfl | rfl | rfl
    · exact one_10_8 d dw d0 d1 (by omega) w
    · exact one_11_8 d dw d0 d1 (by omega) w
    · exact one_12_8 d dw d0 d1 w
    · exact one_13_8 d dw d0 d1 w
    · exact one_14_8 d dw d0 d1 w
    · exact one_15_8 d dw d0 d1 w
    · exact one_16_8 d dw d0 d1 w
    · exact one_17_8 d dw d0 d1 w
    · exact one_18_8 d dw d0 d1 w
    · exact one_19_8 d dw d0 d1 w
  · rcases h with rfl | rfl | rfl | rfl | rfl | rfl | rfl | rfl | rfl | rfl
    · exact one_10_16 d dw d0 d1 (by omega) w
    · exact one_11_16 d dw d0 d1 (by omega) w
    · exact one_12_16 d dw d0 d1 w
    · exact one_13_16 d dw d0 d1 w
    · exact one_14_16 d dw d0 d1 w
    · exact one_15_16 d dw d0 d1 w
    · exact one_16_16 d dw d0 d1 w
    · exact one_17_16 d dw d0 d1 w
    · exact one_18_16 d dw d0 d1 w
    · exact one_19_16 d dw d0 d1 w
  · rcases h with rfl | rfl | rfl | rfl | rfl | rfl | rfl | rfl | rfl | rfl
    · by_cases q : d = 17
      · subst q; exact one_10_17 w
      · exact one_10_0 d dw q w
    · by_cases q : d = 17
      · subst q; exact one_11_17 w
      · exact one_11_0 d dw q w
    · exact one_12_0 d dw w
    · exact one_13_0 d dw w
    · exact one_14_0 d dw w
    · exact one_15_0 d dw w
    · exact one_16_0 d dw w
    · exact one_17_0 d dw w
    · exact one_18_0 d dw w
    · exact one_19_0 d dw w

end Go.Proofs.Ytbhkndblolegaaa
