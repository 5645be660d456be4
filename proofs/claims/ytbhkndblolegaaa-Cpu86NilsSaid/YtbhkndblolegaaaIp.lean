/- The walks of isa86.places, by its operands' classes. -/
import Derived.Test.YtbhkndblolegaaaIb
namespace Go.Proofs.Ytbhkndblolegaaa
open Go.RowKit
set_option linter.unusedVariables false
set_option linter.unusedSimpArgs false

set_option maxRecDepth 100000 in
set_option maxHeartbeats 2000000 in
theorem places_0 (d : Int) (s : Int) (dw : wideL d = 0) (xd1 : ¬ d = 1) (xd17 : ¬ d = 17) (xd18 : ¬ d = 18) (xd19 : ¬ d = 19)  (w : World) :
    Calls Try.prog 97 #[.int .i64 d, .int .i64 s] w (HeadIs w (placesL d s)) := by
  have eq : placesL d s = ([], 0) := by simp [placesL, *]
  rw [eq]
  clear eq
  go_enter Try.func97, Try.ntmps97
  go_wp2_with (first
    | (go_at_call 94; refine (wide_any _ _).mono ?_; rintro e w' ⟨rfl, rfl⟩)
    | (go_at_call 96; refine (num_any _ (by omega) (by omega) _).mono ?_; rintro e w' ⟨rfl, rfl⟩)
    | (go_at_call 98; refine (mem_any _ _ (by omega) (by omega) (by omega) (by omega) _).mono ?_; rintro e w' ⟨rfl, rfl⟩)
    | (go_at_call 95; refine (rm_any _ _ (by omega) (by omega) (by omega) (by omega) _).mono ?_; rintro e w' ⟨rfl, rfl⟩)
    | (go_at_call 71; refine (of_any _ _ _ _ _).mono ?_; rintro e w1 ⟨rfl, hb⟩; have k := res2 hb; obtain ⟨hc, hf⟩ := bcell hb))
  all_goals
    refine bodyPost_ret ?_ rfl (head_none (balloc (Below.refl _ _) _))
    simp [results, Try.results97, go_sem]

set_option maxRecDepth 100000 in
set_option maxHeartbeats 2000000 in
theorem places_1    (w : World) :
    Calls Try.prog 97 #[.int .i64 1, .int .i64 17] w (HeadIs w (placesL 1 17)) := by
  have eq : placesL 1 17 = ([138, numL 1 * 8 + 7], 0) := by simp [placesL, *, show wideL 1 = 8 by decide, show wideL 17 = 0 by decide]
  rw [eq]
  clear eq
  have n10 := numL_lo 1
  have n11 := numL_hi 1
  have q11 := or176 _ n10 n11
  have q12 := or184 _ n10 n11
  have lw1 : wideL 1 = 8 := by decide
  have lw17 : wideL 17 = 0 := by decide
  go_enter Try.func97, Try.ntmps97
  go_wp2_with (first
    | (go_at_call 94; refine (wide_any _ _).mono ?_; rintro e w' ⟨rfl, rfl⟩)
    | (go_at_call 96; refine (num_any _ (by omega) (by omega) _).mono ?_; rintro e w' ⟨rfl, rfl⟩)
    | (go_at_call 98; refine (mem_any _ _ (by omega) (by omega) (by omega) (by omega) _).mono ?_; rintro e w' ⟨rfl, rfl⟩)
    | (go_at_call 95; refine (rm_any _ _ (by omega) (by omega) (by omega) (by omega) _).mono ?_; rintro e w' ⟨rfl, rfl⟩)
    | (go_at_call 71; refine (of_any _ _ _ _ _).mono ?_; rintro e w1 ⟨rfl, hb⟩; have k := res2 hb; obtain ⟨hc, hf⟩ := bcell hb))
  all_goals
    refine bodyPost_ret ?_ rfl (head_leaf2 hb)
    simp [results, Try.results97, go_sem, k]

set_option maxRecDepth 100000 in
set_option maxHeartbeats 2000000 in
theorem places_2    (w : World) :
    Calls Try.prog 97 #[.int .i64 1, .int .i64 18] w (HeadIs w (placesL 1 18)) := by
  have eq : placesL 1 18 = ([138, 4], 0) := by simp [placesL, *, show wideL 1 = 8 by decide, show wideL 18 = 0 by decide]
  rw [eq]
  clear eq
  have lw1 : wideL 1 = 8 := by decide
  have lw18 : wideL 18 = 0 := by decide
  go_enter Try.func97, Try.ntmps97
  go_wp2_with (first
    | (go_at_call 94; refine (wide_any _ _).mono ?_; rintro e w' ⟨rfl, rfl⟩)
    | (go_at_call 96; refine (num_any _ (by omega) (by omega) _).mono ?_; rintro e w' ⟨rfl, rfl⟩)
    | (go_at_call 98; refine (mem_any _ _ (by omega) (by omega) (by omega) (by omega) _).mono ?_; rintro e w' ⟨rfl, rfl⟩)
    | (go_at_call 95; refine (rm_any _ _ (by omega) (by omega) (by omega) (by omega) _).mono ?_; rintro e w' ⟨rfl, rfl⟩)
    | (go_at_call 71; refine (of_any _ _ _ _ _).mono ?_; rintro e w1 ⟨rfl, hb⟩; have k := res2 hb; obtain ⟨hc, hf⟩ := bcell hb))
  all_goals
    refine bodyPost_ret ?_ rfl (head_leaf2 hb)
    simp [results, Try.results97, go_sem, k]

set_option maxRecDepth 100000 in
set_option maxHeartbeats 2000000 in
theorem places_3    (w : World) :
    Calls Try.prog 97 #[.int .i64 1, .int .i64 19] w (HeadIs w (placesL 1 19)) := by
  have eq : placesL 1 19 = ([160], 2) := by simp [placesL, *, show wideL 1 = 8 by decide, show wideL 19 = 0 by decide]
  rw [eq]
  clear eq
  have lw1 : wideL 1 = 8 := by decide
  have lw19 : wideL 19 = 0 := by decide
  go_enter Try.func97, Try.ntmps97
  go_wp2_with (first
    | (go_at_call 94; refine (wide_any _ _).mono ?_; rintro e w' ⟨rfl, rfl⟩)
    | (go_at_call 96; refine (num_any _ (by omega) (by omega) _).mono ?_; rintro e w' ⟨rfl, rfl⟩)
    | (go_at_call 98; refine (mem_any _ _ (by omega) (by omega) (by omega) (by omega) _).mono ?_; rintro e w' ⟨rfl, rfl⟩)
    | (go_at_call 95; refine (rm_any _ _ (by omega) (by omega) (by omega) (by omega) _).mono ?_; rintro e w' ⟨rfl, rfl⟩)
    | (go_at_call 71; refine (of_any _ _ _ _ _).mono ?_; rintro e w1 ⟨rfl, hb⟩; have k := res2 hb; obtain ⟨hc, hf⟩ := bcell hb))
  all_goals
    refine bodyPost_ret ?_ rfl (head_leaf1 hb)
    simp [results, Try.results97, go_sem, k]

set_option maxRecDepth 100000 in
set_option maxHeartbeats 2000000 in
theorem places_4    (w : World) :
    Calls Try.prog 97 #[.int .i64 1, .int .i64 20] w (HeadIs w (placesL 1 20)) := by
  have eq : placesL 1 20 = ([176 + numL 1], 1) := by simp [placesL, *, show wideL 1 = 8 by decide, show wideL 20 = 0 by decide]
  rw [eq]
  clear eq
  have n10 := numL_lo 1
  have n11 := numL_hi 1
  have q11 := or176 _ n10 n11
  have q12 := or184 _ n10 n11
  have lw1 : wideL 1 = 8 := by decide
  have lw20 : wideL 20 = 0 := by decide
  go_enter Try.func97, Try.ntmps97
  go_wp2_with (first
    | (go_at_call 94; refine (wide_any _ _).mono ?_; rintro e w' ⟨rfl, rfl⟩)
    | (go_at_call 96; refine (num_any _ (by omega) (by omega) _).mono ?_; rintro e w' ⟨rfl, rfl⟩)
    | (go_at_call 98; refine (mem_any _ _ (by omega) (by omega) (by omega) (by omega) _).mono ?_; rintro e w' ⟨rfl, rfl⟩)
    | (go_at_call 95; refine (rm_any _ _ (by omega) (by omega) (by omega) (by omega) _).mono ?_; rintro e w' ⟨rfl, rfl⟩)
    | (go_at_call 71; refine (of_any _ _ _ _ _).mono ?_; rintro e w1 ⟨rfl, hb⟩; have k := res2 hb; obtain ⟨hc, hf⟩ := bcell hb))
  all_goals
    refine bodyPost_ret ?_ rfl (head_leaf1 hb)
    simp [results, Try.results97, go_sem, k]

set_option maxRecDepth 100000 in
set_option maxHeartbeats 2000000 in
theorem places_5 (s : Int)  (xs17 : ¬ s = 17) (xs18 : ¬ s = 18) (xs19 : ¬ s = 19) (xs20 : ¬ s = 20) (w : World) :
    Calls Try.prog 97 #[.int .i64 1, .int .i64 s] w (HeadIs w (placesL 1 s)) := by
  have eq : placesL 1 s = ([], 0) := by simp [placesL, *, show wideL 1 = 8 by decide]
  rw [eq]
  clear eq
  have lw1 : wideL 1 = 8 := by decide
  go_enter Try.func97, Try.ntmps97
  go_wp2_with (first
    | (go_at_call 94; refine (wide_any _ _).mono ?_; rintro e w' ⟨rfl, rfl⟩)
    | (go_at_call 96; refine (num_any _ (by omega) (by omega) _).mono ?_; rintro e w' ⟨rfl, rfl⟩)
    | (go_at_call 98; refine (mem_any _ _ (by omega) (by omega) (by omega) (by omega) _).mono ?_; rintro e w' ⟨rfl, rfl⟩)
    | (go_at_call 95; refine (rm_any _ _ (by omega) (by omega) (by omega) (by omega) _).mono ?_; rintro e w' ⟨rfl, rfl⟩)
    | (go_at_call 71; refine (of_any _ _ _ _ _).mono ?_; rintro e w1 ⟨rfl, hb⟩; have k := res2 hb; obtain ⟨hc, hf⟩ := bcell hb))
  all_goals
    refine bodyPost_ret ?_ rfl (head_none (balloc (Below.refl _ _) _))
    simp [results, Try.results97, go_sem]

set_option maxRecDepth 100000 in
set_option maxHeartbeats 2000000 in
theorem places_6 (d : Int)  (dw : wideL d = 8) (d0 : 1 ≤ d) (d1 : d ≤ 8) (xd1 : ¬ d = 1)  (w : World) :
    Calls Try.prog 97 #[.int .i64 d, .int .i64 17] w (HeadIs w (placesL d 17)) := by
  have eq : placesL d 17 = ([138, numL d * 8 + 7], 0) := by simp [placesL, *, show wideL 17 = 0 by decide]
  rw [eq]
  clear eq
  have nd0 := numL_lo d
  have nd1 := numL_hi d
  have qd1 := or176 _ nd0 nd1
  have qd2 := or184 _ nd0 nd1
  have lw17 : wideL 17 = 0 := by decide
  go_enter Try.func97, Try.ntmps97
  go_wp2_with (first
    | (go_at_call 94; refine (wide_any _ _).mono ?_; rintro e w' ⟨rfl, rfl⟩)
    | (go_at_call 96; refine (num_any _ (by omega) (by omega) _).mono ?_; rintro e w' ⟨rfl, rfl⟩)
    | (go_at_call 98; refine (mem_any _ _ (by omega) (by omega) (by omega) (by omega) _).mono ?_; rintro e w' ⟨rfl, rfl⟩)
    | (go_at_call 95; refine (rm_any _ _ (by omega) (by omega) (by omega) (by omega) _).mono ?_; rintro e w' ⟨rfl, rfl⟩)
    | (go_at_call 71; refine (of_any _ _ _ _ _).mono ?_; rintro e w1 ⟨rfl, hb⟩; have k := res2 hb; obtain ⟨hc, hf⟩ := bcell hb))
  all_goals
    refine bodyPost_ret ?_ rfl (head_leaf2 hb)
    simp [results, Try.results97, go_sem, k]

set_option maxRecDepth 100000 in
set_option maxHeartbeats 2000000 in
theorem places_7 (d : Int)  (dw : wideL d = 8) (d0 : 1 ≤ d) (d1 : d ≤ 8) (xd1 : ¬ d = 1)  (w : World) :
    Calls Try.prog 97 #[.int .i64 d, .int .i64 20] w (HeadIs w (placesL d 20)) := by
  have eq : placesL d 20 = ([176 + numL d], 1) := by simp [placesL, *, show wideL 20 = 0 by decide]
  rw [eq]
  clear eq
  have nd0 := numL_lo d
  have nd1 := numL_hi d
  have qd1 := or176 _ nd0 nd1
  have qd2 := or184 _ nd0 nd1
  have lw20 : wideL 20 = 0 := by decide
  go_enter Try.func97, Try.ntmps97
  go_wp2_with (first
    | (go_at_call 94; refine (wide_any _ _).mono ?_; rintro e w' ⟨rfl, rfl⟩)
    | (go_at_call 96; refine (num_any _ (by omega) (by omega) _).mono ?_; rintro e w' ⟨rfl, rfl⟩)
    | (go_at_call 98; refine (mem_any _ _ (by omega) (by omega) (by omega) (by omega) _).mono ?_; rintro e w' ⟨rfl, rfl⟩)
    | (go_at_call 95; refine (rm_any _ _ (by omega) (by omega) (by omega) (by omega) _).mono ?_; rintro e w' ⟨rfl, rfl⟩)
    | (go_at_call 71; refine (of_any _ _ _ _ _).mono ?_; rintro e w1 ⟨rfl, hb⟩; have k := res2 hb; obtain ⟨hc, hf⟩ := bcell hb))
  all_goals
    refine bodyPost_ret ?_ rfl (head_leaf1 hb)
    simp [results, Try.results97, go_sem, k]

set_option maxRecDepth 100000 in
set_option maxHeartbeats 2000000 in
theorem places_8 (d : Int) (s : Int) (dw : wideL d = 8) (d0 : 1 ≤ d) (d1 : d ≤ 8) (xd1 : ¬ d = 1) (xd17 : ¬ d = 17) (xd18 : ¬ d = 18) (xd19 : ¬ d = 19) (xs17 : ¬ s = 17) (xs20 : ¬ s = 20) (w : World) :
    Calls Try.prog 97 #[.int .i64 d, .int .i64 s] w (HeadIs w (placesL d s)) := by
  have eq : placesL d s = ([], 0) := by simp [placesL, *]
  rw [eq]
  clear eq
  go_enter Try.func97, Try.ntmps97
  go_wp2_with (first
    | (go_at_call 94; refine (wide_any _ _).mono ?_; rintro e w' ⟨rfl, rfl⟩)
    | (go_at_call 96; refine (num_any _ (by omega) (by omega) _).mono ?_; rintro e w' ⟨rfl, rfl⟩)
    | (go_at_call 98; refine (mem_any _ _ (by omega) (by omega) (by omega) (by omega) _).mono ?_; rintro e w' ⟨rfl, rfl⟩)
    | (go_at_call 95; refine (rm_any _ _ (by omega) (by omega) (by omega) (by omega) _).mono ?_; rintro e w' ⟨rfl, rfl⟩)
    | (go_at_call 71; refine (of_any _ _ _ _ _).mono ?_; rintro e w1 ⟨rfl, hb⟩; have k := res2 hb; obtain ⟨hc, hf⟩ := bcell hb))
  all_goals
    refine bodyPost_ret ?_ rfl (head_none (balloc (Below.refl _ _) _))
    simp [results, Try.results97, go_sem]

set_option maxRecDepth 100000 in
set_option maxHeartbeats 2000000 in
theorem places_9    (w : World) :
    Calls Try.prog 97 #[.int .i64 9, .int .i64 20] w (HeadIs w (placesL 9 20)) := by
  have eq : placesL 9 20 = ([184 + numL 9], 2) := by simp [placesL, *, show wideL 9 = 16 by decide, show wideL 20 = 0 by decide]
  rw [eq]
  clear eq
  have n90 := numL_lo 9
  have n91 := numL_hi 9
  have q91 := or176 _ n90 n91
  have q92 := or184 _ n90 n91
  have lw9 : wideL 9 = 16 := by decide
  have lw20 : wideL 20 = 0 := by decide
  go_enter Try.func97, Try.ntmps97
  go_wp2_with (first
    | (go_at_call 94; refine (wide_any _ _).mono ?_; rintro e w' ⟨rfl, rfl⟩)
    | (go_at_call 96; refine (num_any _ (by omega) (by omega) _).mono ?_; rintro e w' ⟨rfl, rfl⟩)
    | (go_at_call 98; refine (mem_any _ _ (by omega) (by omega) (by omega) (by omega) _).mono ?_; rintro e w' ⟨rfl, rfl⟩)
    | (go_at_call 95; refine (rm_any _ _ (by omega) (by omega) (by omega) (by omega) _).mono ?_; rintro e w' ⟨rfl, rfl⟩)
    | (go_at_call 71; refine (of_any _ _ _ _ _).mono ?_; rintro e w1 ⟨rfl, hb⟩; have k := res2 hb; obtain ⟨hc, hf⟩ := bcell hb))
  all_goals
    refine bodyPost_ret ?_ rfl (head_leaf1 hb)
    simp [results, Try.results97, go_sem, k]

set_option maxRecDepth 100000 in
set_option maxHeartbeats 2000000 in
theorem places_10 (s : Int)  (xs20 : ¬ s = 20) (w : World) :
    Calls Try.prog 97 #[.int .i64 9, .int .i64 s] w (HeadIs w (placesL 9 s)) := by
  have eq : placesL 9 s = ([], 0) := by simp [placesL, *, show wideL 9 = 16 by decide]
  rw [eq]
  clear eq
  have lw9 : wideL 9 = 16 := by decide
  go_enter Try.func97, Try.ntmps97
  go_wp2_with (first
    | (go_at_call 94; refine (wide_any _ _).mono ?_; rintro e w' ⟨rfl, rfl⟩)
    | (go_at_call 96; refine (num_any _ (by omega) (by omega) _).mono ?_; rintro e w' ⟨rfl, rfl⟩)
    | (go_at_call 98; refine (mem_any _ _ (by omega) (by omega) (by omega) (by omega) _).mono ?_; rintro e w' ⟨rfl, rfl⟩)
    | (go_at_call 95; refine (rm_any _ _ (by omega) (by omega) (by omega) (by omega) _).mono ?_; rintro e w' ⟨rfl, rfl⟩)
    | (go_at_call 71; refine (of_any _ _ _ _ _).mono ?_; rintro e w1 ⟨rfl, hb⟩; have k := res2 hb; obtain ⟨hc, hf⟩ := bcell hb))
  all_goals
    refine bodyPost_ret ?_ rfl (head_none (balloc (Below.refl _ _) _))
    simp [results, Try.results97, go_sem]

set_option maxRecDepth 100000 in
set_option maxHeartbeats 2000000 in
theorem places_11 (d : Int)  (dw : wideL d = 16) (d0 : 9 ≤ d) (d1 : d ≤ 16) (xd9 : ¬ d = 9) (xd1 : ¬ d = 1) (xd17 : ¬ d = 17) (xd18 : ¬ d = 18) (xd19 : ¬ d = 19)  (w : World) :
    Calls Try.prog 97 #[.int .i64 d, .int .i64 19] w (HeadIs w (placesL d 19)) := by
  have eq : placesL d 19 = ([139, numL d * 8 + 6], 2) := by simp [placesL, *, show wideL 19 = 0 by decide]
  rw [eq]
  clear eq
  have nd0 := numL_lo d
  have nd1 := numL_hi d
  have qd1 := or176 _ nd0 nd1
  have qd2 := or184 _ nd0 nd1
  have lw19 : wideL 19 = 0 := by decide
  have yd9 : (d != 9) = true := by simp [xd9]
  go_enter Try.func97, Try.ntmps97
  go_wp2_with (first
    | (go_at_call 94; refine (wide_any _ _).mono ?_; rintro e w' ⟨rfl, rfl⟩)
    | (go_at_call 96; refine (num_any _ (by omega) (by omega) _).mono ?_; rintro e w' ⟨rfl, rfl⟩)
    | (go_at_call 98; refine (mem_any _ _ (by omega) (by omega) (by omega) (by omega) _).mono ?_; rintro e w' ⟨rfl, rfl⟩)
    | (go_at_call 95; refine (rm_any _ _ (by omega) (by omega) (by omega) (by omega) _).mono ?_; rintro e w' ⟨rfl, rfl⟩)
    | (go_at_call 71; refine (of_any _ _ _ _ _).mono ?_; rintro e w1 ⟨rfl, hb⟩; have k := res2 hb; obtain ⟨hc, hf⟩ := bcell hb))
  all_goals
    refine bodyPost_ret ?_ rfl (head_leaf2 hb)
    simp [results, Try.results97, go_sem, k]

set_option maxRecDepth 100000 in
set_option maxHeartbeats 2000000 in
theorem places_12 (d : Int)  (dw : wideL d = 16) (d0 : 9 ≤ d) (d1 : d ≤ 16) (xd9 : ¬ d = 9) (xd1 : ¬ d = 1) (xd17 : ¬ d = 17) (xd18 : ¬ d = 18) (xd19 : ¬ d = 19)  (w : World) :
    Calls Try.prog 97 #[.int .i64 d, .int .i64 20] w (HeadIs w (placesL d 20)) := by
  have eq : placesL d 20 = ([184 + numL d], 2) := by simp [placesL, *, show wideL 20 = 0 by decide]
  rw [eq]
  clear eq
  have nd0 := numL_lo d
  have nd1 := numL_hi d
  have qd1 := or176 _ nd0 nd1
  have qd2 := or184 _ nd0 nd1
  have lw20 : wideL 20 = 0 := by decide
  have yd9 : (d != 9) = true := by simp [xd9]
  go_enter Try.func97, Try.ntmps97
  go_wp2_with (first
    | (go_at_call 94; refine (wide_any _ _).mono ?_; rintro e w' ⟨rfl, rfl⟩)
    | (go_at_call 96; refine (num_any _ (by omega) (by omega) _).mono ?_; rintro e w' ⟨rfl, rfl⟩)
    | (go_at_call 98; refine (mem_any _ _ (by omega) (by omega) (by omega) (by omega) _).mono ?_; rintro e w' ⟨rfl, rfl⟩)
    | (go_at_call 95; refine (rm_any _ _ (by omega) (by omega) (by omega) (by omega) _).mono ?_; rintro e w' ⟨rfl, rfl⟩)
    | (go_at_call 71; refine (of_any _ _ _ _ _).mono ?_; rintro e w1 ⟨rfl, hb⟩; have k := res2 hb; obtain ⟨hc, hf⟩ := bcell hb))
  all_goals
    refine bodyPost_ret ?_ rfl (head_leaf1 hb)
    simp [results, Try.results97, go_sem, k]

set_option maxRecDepth 100000 in
set_option maxHeartbeats 2000000 in
theorem places_13 (d : Int) (s : Int) (dw : wideL d = 16) (d0 : 9 ≤ d) (d1 : d ≤ 16) (xd9 : ¬ d = 9) (xd1 : ¬ d = 1) (xd17 : ¬ d = 17) (xd18 : ¬ d = 18) (xd19 : ¬ d = 19) (xs19 : ¬ s = 19) (xs20 : ¬ s = 20) (w : World) :
    Calls Try.prog 97 #[.int .i64 d, .int .i64 s] w (HeadIs w (placesL d s)) := by
  have eq : placesL d s = ([], 0) := by simp [placesL, *]
  rw [eq]
  clear eq
  have yd9 : (d != 9) = true := by simp [xd9]
  go_enter Try.func97, Try.ntmps97
  go_wp2_with (first
    | (go_at_call 94; refine (wide_any _ _).mono ?_; rintro e w' ⟨rfl, rfl⟩)
    | (go_at_call 96; refine (num_any _ (by omega) (by omega) _).mono ?_; rintro e w' ⟨rfl, rfl⟩)
    | (go_at_call 98; refine (mem_any _ _ (by omega) (by omega) (by omega) (by omega) _).mono ?_; rintro e w' ⟨rfl, rfl⟩)
    | (go_at_call 95; refine (rm_any _ _ (by omega) (by omega) (by omega) (by omega) _).mono ?_; rintro e w' ⟨rfl, rfl⟩)
    | (go_at_call 71; refine (of_any _ _ _ _ _).mono ?_; rintro e w1 ⟨rfl, hb⟩; have k := res2 hb; obtain ⟨hc, hf⟩ := bcell hb))
  all_goals
    refine bodyPost_ret ?_ rfl (head_none (balloc (Below.refl _ _) _))
    simp [results, Try.results97, go_sem]

set_option maxRecDepth 100000 in
set_option maxHeartbeats 2000000 in
theorem places_14 (s : Int)  (sw : wideL s = 8) (s0 : 1 ≤ s) (s1 : s ≤ 8) (w : World) :
    Calls Try.prog 97 #[.int .i64 17, .int .i64 s] w (HeadIs w (placesL 17 s)) := by
  have eq : placesL 17 s = ([136, numL s * 8 + 7], 0) := by simp [placesL, *, show wideL 17 = 0 by decide]
  rw [eq]
  clear eq
  have ns0 := numL_lo s
  have ns1 := numL_hi s
  have qs1 := or176 _ ns0 ns1
  have qs2 := or184 _ ns0 ns1
  have lw17 : wideL 17 = 0 := by decide
  go_enter Try.func97, Try.ntmps97
  go_wp2_with (first
    | (go_at_call 94; refine (wide_any _ _).mono ?_; rintro e w' ⟨rfl, rfl⟩)
    | (go_at_call 96; refine (num_any _ (by omega) (by omega) _).mono ?_; rintro e w' ⟨rfl, rfl⟩)
    | (go_at_call 98; refine (mem_any _ _ (by omega) (by omega) (by omega) (by omega) _).mono ?_; rintro e w' ⟨rfl, rfl⟩)
    | (go_at_call 95; refine (rm_any _ _ (by omega) (by omega) (by omega) (by omega) _).mono ?_; rintro e w' ⟨rfl, rfl⟩)
    | (go_at_call 71; refine (of_any _ _ _ _ _).mono ?_; rintro e w1 ⟨rfl, hb⟩; have k := res2 hb; obtain ⟨hc, hf⟩ := bcell hb))
  all_goals
    refine bodyPost_ret ?_ rfl (head_leaf2 hb)
    simp [results, Try.results97, go_sem, k]

set_option maxRecDepth 100000 in
set_option maxHeartbeats 2000000 in
theorem places_15    (w : World) :
    Calls Try.prog 97 #[.int .i64 17, .int .i64 20] w (HeadIs w (placesL 17 20)) := by
  have eq : placesL 17 20 = ([198, 7], 1) := by simp [placesL, *, show wideL 17 = 0 by decide, show wideL 20 = 0 by decide]
  rw [eq]
  clear eq
  have lw17 : wideL 17 = 0 := by decide
  have lw20 : wideL 20 = 0 := by decide
  go_enter Try.func97, Try.ntmps97
  go_wp2_with (first
    | (go_at_call 94; refine (wide_any _ _).mono ?_; rintro e w' ⟨rfl, rfl⟩)
    | (go_at_call 96; refine (num_any _ (by omega) (by omega) _).mono ?_; rintro e w' ⟨rfl, rfl⟩)
    | (go_at_call 98; refine (mem_any _ _ (by omega) (by omega) (by omega) (by omega) _).mono ?_; rintro e w' ⟨rfl, rfl⟩)
    | (go_at_call 95; refine (rm_any _ _ (by omega) (by omega) (by omega) (by omega) _).mono ?_; rintro e w' ⟨rfl, rfl⟩)
    | (go_at_call 71; refine (of_any _ _ _ _ _).mono ?_; rintro e w1 ⟨rfl, hb⟩; have k := res2 hb; obtain ⟨hc, hf⟩ := bcell hb))
  all_goals
    refine bodyPost_ret ?_ rfl (head_leaf2 hb)
    simp [results, Try.results97, go_sem, k]

set_option maxRecDepth 100000 in
set_option maxHeartbeats 2000000 in
theorem places_16 (s : Int)  (sw : wideL s = 16) (s0 : 9 ≤ s) (s1 : s ≤ 16) (xs20 : ¬ s = 20) (w : World) :
    Calls Try.prog 97 #[.int .i64 17, .int .i64 s] w (HeadIs w (placesL 17 s)) := by
  have eq : placesL 17 s = ([], 0) := by simp [placesL, *, show wideL 17 = 0 by decide]
  rw [eq]
  clear eq
  have lw17 : wideL 17 = 0 := by decide
  go_enter Try.func97, Try.ntmps97
  go_wp2_with (first
    | (go_at_call 94; refine (wide_any _ _).mono ?_; rintro e w' ⟨rfl, rfl⟩)
    | (go_at_call 96; refine (num_any _ (by omega) (by omega) _).mono ?_; rintro e w' ⟨rfl, rfl⟩)
    | (go_at_call 98; refine (mem_any _ _ (by omega) (by omega) (by omega) (by omega) _).mono ?_; rintro e w' ⟨rfl, rfl⟩)
    | (go_at_call 95; refine (rm_any _ _ (by omega) (by omega) (by omega) (by omega) _).mono ?_; rintro e w' ⟨rfl, rfl⟩)
    | (go_at_call 71; refine (of_any _ _ _ _ _).mono ?_; rintro e w1 ⟨rfl, hb⟩; have k := res2 hb; obtain ⟨hc, hf⟩ := bcell hb))
  all_goals
    refine bodyPost_ret ?_ rfl (head_none (balloc (Below.refl _ _) _))
    simp [results, Try.results97, go_sem]

set_option maxRecDepth 100000 in
set_option maxHeartbeats 2000000 in
theorem places_17 (s : Int)  (sw : wideL s = 0) (xs20 : ¬ s = 20) (w : World) :
    Calls Try.prog 97 #[.int .i64 17, .int .i64 s] w (HeadIs w (placesL 17 s)) := by
  have eq : placesL 17 s = ([], 0) := by simp [placesL, *, show wideL 17 = 0 by decide]
  rw [eq]
  clear eq
  have lw17 : wideL 17 = 0 := by decide
  go_enter Try.func97, Try.ntmps97
  go_wp2_with (first
    | (go_at_call 94; refine (wide_any _ _).mono ?_; rintro e w' ⟨rfl, rfl⟩)
    | (go_at_call 96; refine (num_any _ (by omega) (by omega) _).mono ?_; rintro e w' ⟨rfl, rfl⟩)
    | (go_at_call 98; refine (mem_any _ _ (by omega) (by omega) (by omega) (by omega) _).mono ?_; rintro e w' ⟨rfl, rfl⟩)
    | (go_at_call 95; refine (rm_any _ _ (by omega) (by omega) (by omega) (by omega) _).mono ?_; rintro e w' ⟨rfl, rfl⟩)
    | (go_at_call 71; refine (of_any _ _ _ _ _).mono ?_; rintro e w1 ⟨rfl, hb⟩; have k := res2 hb; obtain ⟨hc, hf⟩ := bcell hb))
  all_goals
    refine bodyPost_ret ?_ rfl (head_none (balloc (Below.refl _ _) _))
    simp [results, Try.results97, go_sem]

set_option maxRecDepth 100000 in
set_option maxHeartbeats 2000000 in
theorem places_18    (w : World) :
    Calls Try.prog 97 #[.int .i64 18, .int .i64 1] w (HeadIs w (placesL 18 1)) := by
  have eq : placesL 18 1 = ([136, 4], 0) := by simp [placesL, *, show wideL 18 = 0 by decide, show wideL 1 = 8 by decide]
  rw [eq]
  clear eq
  have lw18 : wideL 18 = 0 := by decide
  have lw1 : wideL 1 = 8 := by decide
  go_enter Try.func97, Try.ntmps97
  go_wp2_with (first
    | (go_at_call 94; refine (wide_any _ _).mono ?_; rintro e w' ⟨rfl, rfl⟩)
    | (go_at_call 96; refine (num_any _ (by omega) (by omega) _).mono ?_; rintro e w' ⟨rfl, rfl⟩)
    | (go_at_call 98; refine (mem_any _ _ (by omega) (by omega) (by omega) (by omega) _).mono ?_; rintro e w' ⟨rfl, rfl⟩)
    | (go_at_call 95; refine (rm_any _ _ (by omega) (by omega) (by omega) (by omega) _).mono ?_; rintro e w' ⟨rfl, rfl⟩)
    | (go_at_call 71; refine (of_any _ _ _ _ _).mono ?_; rintro e w1 ⟨rfl, hb⟩; have k := res2 hb; obtain ⟨hc, hf⟩ := bcell hb))
  all_goals
    refine bodyPost_ret ?_ rfl (head_leaf2 hb)
    simp [results, Try.results97, go_sem, k]

set_option maxRecDepth 100000 in
set_option maxHeartbeats 2000000 in
theorem places_19 (s : Int)  (xs1 : ¬ s = 1) (w : World) :
    Calls Try.prog 97 #[.int .i64 18, .int .i64 s] w (HeadIs w (placesL 18 s)) := by
  have eq : placesL 18 s = ([], 0) := by simp [placesL, *, show wideL 18 = 0 by decide]
  rw [eq]
  clear eq
  have lw18 : wideL 18 = 0 := by decide
  go_enter Try.func97, Try.ntmps97
  go_wp2_with (first
    | (go_at_call 94; refine (wide_any _ _).mono ?_; rintro e w' ⟨rfl, rfl⟩)
    | (go_at_call 96; refine (num_any _ (by omega) (by omega) _).mono ?_; rintro e w' ⟨rfl, rfl⟩)
    | (go_at_call 98; refine (mem_any _ _ (by omega) (by omega) (by omega) (by omega) _).mono ?_; rintro e w' ⟨rfl, rfl⟩)
    | (go_at_call 95; refine (rm_any _ _ (by omega) (by omega) (by omega) (by omega) _).mono ?_; rintro e w' ⟨rfl, rfl⟩)
    | (go_at_call 71; refine (of_any _ _ _ _ _).mono ?_; rintro e w1 ⟨rfl, hb⟩; have k := res2 hb; obtain ⟨hc, hf⟩ := bcell hb))
  all_goals
    refine bodyPost_ret ?_ rfl (head_none (balloc (Below.refl _ _) _))
    simp [results, Try.results97, go_sem]

set_option maxRecDepth 100000 in
set_option maxHeartbeats 2000000 in
theorem places_20    (w : World) :
    Calls Try.prog 97 #[.int .i64 19, .int .i64 1] w (HeadIs w (placesL 19 1)) := by
  have eq : placesL 19 1 = ([162], 2) := by simp [placesL, *, show wideL 19 = 0 by decide, show wideL 1 = 8 by decide]
  rw [eq]
  clear eq
  have lw19 : wideL 19 = 0 := by decide
  have lw1 : wideL 1 = 8 := by decide
  go_enter Try.func97, Try.ntmps97
  go_wp2_with (first
    | (go_at_call 94; refine (wide_any _ _).mono ?_; rintro e w' ⟨rfl, rfl⟩)
    | (go_at_call 96; refine (num_any _ (by omega) (by omega) _).mono ?_; rintro e w' ⟨rfl, rfl⟩)
    | (go_at_call 98; refine (mem_any _ _ (by omega) (by omega) (by omega) (by omega) _).mono ?_; rintro e w' ⟨rfl, rfl⟩)
    | (go_at_call 95; refine (rm_any _ _ (by omega) (by omega) (by omega) (by omega) _).mono ?_; rintro e w' ⟨rfl, rfl⟩)
    | (go_at_call 71; refine (of_any _ _ _ _ _).mono ?_; rintro e w1 ⟨rfl, hb⟩; have k := res2 hb; obtain ⟨hc, hf⟩ := bcell hb))
  all_goals
    refine bodyPost_ret ?_ rfl (head_leaf1 hb)
    simp [results, Try.results97, go_sem, k]

set_option maxRecDepth 100000 in
set_option maxHeartbeats 2000000 in
theorem places_21 (s : Int)  (sw : wideL s = 8) (s0 : 1 ≤ s) (s1 : s ≤ 8) (xs1 : ¬ s = 1) (w : World) :
    Calls Try.prog 97 #[.int .i64 19, .int .i64 s] w (HeadIs w (placesL 19 s)) := by
  have eq : placesL 19 s = ([], 0) := by simp [placesL, *, show wideL 19 = 0 by decide]
  rw [eq]
  clear eq
  have lw19 : wideL 19 = 0 := by decide
  go_enter Try.func97, Try.ntmps97
  go_wp2_with (first
    | (go_at_call 94; refine (wide_any _ _).mono ?_; rintro e w' ⟨rfl, rfl⟩)
    | (go_at_call 96; refine (num_any _ (by omega) (by omega) _).mono ?_; rintro e w' ⟨rfl, rfl⟩)
    | (go_at_call 98; refine (mem_any _ _ (by omega) (by omega) (by omega) (by omega) _).mono ?_; rintro e w' ⟨rfl, rfl⟩)
    | (go_at_call 95; refine (rm_any _ _ (by omega) (by omega) (by omega) (by omega) _).mono ?_; rintro e w' ⟨rfl, rfl⟩)
    | (go_at_call 71; refine (of_any _ _ _ _ _).mono ?_; rintro e w1 ⟨rfl, hb⟩; have k := res2 hb; obtain ⟨hc, hf⟩ := bcell hb))
  all_goals
    refine bodyPost_ret ?_ rfl (head_none (balloc (Below.refl _ _) _))
    simp [results, Try.results97, go_sem]

set_option maxRecDepth 100000 in
set_option maxHeartbeats 2000000 in
theorem places_22    (w : World) :
    Calls Try.prog 97 #[.int .i64 19, .int .i64 9] w (HeadIs w (placesL 19 9)) := by
  have eq : placesL 19 9 = ([], 0) := by simp [placesL, *, show wideL 19 = 0 by decide, show wideL 9 = 16 by decide]
  rw [eq]
  clear eq
  have lw19 : wideL 19 = 0 := by decide
  have lw9 : wideL 9 = 16 := by decide
  go_enter Try.func97, Try.ntmps97
  go_wp2_with (first
    | (go_at_call 94; refine (wide_any _ _).mono ?_; rintro e w' ⟨rfl, rfl⟩)
    | (go_at_call 96; refine (num_any _ (by omega) (by omega) _).mono ?_; rintro e w' ⟨rfl, rfl⟩)
    | (go_at_call 98; refine (mem_any _ _ (by omega) (by omega) (by omega) (by omega) _).mono ?_; rintro e w' ⟨rfl, rfl⟩)
    | (go_at_call 95; refine (rm_any _ _ (by omega) (by omega) (by omega) (by omega) _).mono ?_; rintro e w' ⟨rfl, rfl⟩)
    | (go_at_call 71; refine (of_any _ _ _ _ _).mono ?_; rintro e w1 ⟨rfl, hb⟩; have k := res2 hb; obtain ⟨hc, hf⟩ := bcell hb))
  all_goals
    refine bodyPost_ret ?_ rfl (head_none (balloc (Below.refl _ _) _))
    simp [results, Try.results97, go_sem]

set_option maxRecDepth 100000 in
set_option maxHeartbeats 2000000 in
theorem places_23 (s : Int)  (sw : wideL s = 16) (s0 : 9 ≤ s) (s1 : s ≤ 16) (xs9 : ¬ s = 9) (xs1 : ¬ s = 1) (w : World) :
    Calls Try.prog 97 #[.int .i64 19, .int .i64 s] w (HeadIs w (placesL 19 s)) := by
  have eq : placesL 19 s = ([137, numL s * 8 + 6], 2) := by simp [placesL, *, show wideL 19 = 0 by decide]
  rw [eq]
  clear eq
  have ns0 := numL_lo s
  have ns1 := numL_hi s
  have qs1 := or176 _ ns0 ns1
  have qs2 := or184 _ ns0 ns1
  have lw19 : wideL 19 = 0 := by decide
  have ys9 : (s != 9) = true := by simp [xs9]
  go_enter Try.func97, Try.ntmps97
  go_wp2_with (first
    | (go_at_call 94; refine (wide_any _ _).mono ?_; rintro e w' ⟨rfl, rfl⟩)
    | (go_at_call 96; refine (num_any _ (by omega) (by omega) _).mono ?_; rintro e w' ⟨rfl, rfl⟩)
    | (go_at_call 98; refine (mem_any _ _ (by omega) (by omega) (by omega) (by omega) _).mono ?_; rintro e w' ⟨rfl, rfl⟩)
    | (go_at_call 95; refine (rm_any _ _ (by omega) (by omega) (by omega) (by omega) _).mono ?_; rintro e w' ⟨rfl, rfl⟩)
    | (go_at_call 71; refine (of_any _ _ _ _ _).mono ?_; rintro e w1 ⟨rfl, hb⟩; have k := res2 hb; obtain ⟨hc, hf⟩ := bcell hb))
  all_goals
    refine bodyPost_ret ?_ rfl (head_leaf2 hb)
    simp [results, Try.results97, go_sem, k]

set_option maxRecDepth 100000 in
set_option maxHeartbeats 2000000 in
theorem places_24 (s : Int)  (sw : wideL s = 0) (xs1 : ¬ s = 1) (w : World) :
    Calls Try.prog 97 #[.int .i64 19, .int .i64 s] w (HeadIs w (placesL 19 s)) := by
  have eq : placesL 19 s = ([], 0) := by simp [placesL, *, show wideL 19 = 0 by decide]
  rw [eq]
  clear eq
  have lw19 : wideL 19 = 0 := by decide
  go_enter Try.func97, Try.ntmps97
  go_wp2_with (first
    | (go_at_call 94; refine (wide_any _ _).mono ?_; rintro e w' ⟨rfl, rfl⟩)
    | (go_at_call 96; refine (num_any _ (by omega) (by omega) _).mono ?_; rintro e w' ⟨rfl, rfl⟩)
    | (go_at_call 98; refine (mem_any _ _ (by omega) (by omega) (by omega) (by omega) _).mono ?_; rintro e w' ⟨rfl, rfl⟩)
    | (go_at_call 95; refine (rm_any _ _ (by omega) (by omega) (by omega) (by omega) _).mono ?_; rintro e w' ⟨rfl, rfl⟩)
    | (go_at_call 71; refine (of_any _ _ _ _ _).mono ?_; rintro e w1 ⟨rfl, hb⟩; have k := res2 hb; obtain ⟨hc, hf⟩ := bcell hb))
  all_goals
    refine bodyPost_ret ?_ rfl (head_none (balloc (Below.refl _ _) _))
    simp [results, Try.results97, go_sem]

theorem places_any (d s : Int) (w : World) : Calls Try.prog 97 #[.int .i64 d, .int .i64 s] w (HeadIs w (placesL d s)) := by
  rcases wide_cases d with ⟨dw, d0, d1⟩ | ⟨dw, d0, d1⟩ | ⟨dw, dd⟩
  · by_cases d1 : d = 1
    · subst d1
      by_cases p : s = 17
      · subst p; exact places_1 w
      by_cases p : s = 18
      · subst p; exact places_2 w
      by_cases p : s = 19
      · subst p; exact places_3 w
      by_cases p : s = 20
      · subst p; exact places_4 w
      exact places_5 s (by omega) (by omega) (by omega) (by omega) w
    · by_cases p : s = 17
      · subst p; exact places_6 d dw d0 (by omega) (by omega) w
      by_cases p : s = 20
      · subst p; exact places_7 d dw d0 (by omega) (by omega) w
      exact places_8 d s dw d0 (by omega) (by omega) (by omega) (by omega) (by omega) (by omega) (by omega) w
  · by_cases d9 : d = 9
    · subst d9
      by_cases p : s = 20
      · subst p; exact places_9 w
      exact places_10 s (by omega) w
    · by_cases p : s = 19
      · subst p; exact places_11 d dw d0 d1 (by omega) (by omega) (by omega) (by omega) (by omega) w
      by_cases p : s = 20
      · subst p; exact places_12 d dw d0 d1 (by omega) (by omega) (by omega) (by omega) (by omega) w
      exact places_13 d s dw d0 d1 (by omega) (by omega) (by omega) (by omega) (by omega) (by omega) (by omega) w
  · by_cases p : d = 17
    · subst p
      rcases wide_cases s with ⟨sw, s0, s1⟩ | ⟨sw, s0, s1⟩ | ⟨sw, ss⟩
      · exact places_14 s sw s0 s1 w
      · exact places_16 s sw s0 s1 (by omega) w
      · by_cases q : s = 20
        · subst q; exact places_15 w
        · exact places_17 s sw (by omega) w
    by_cases p : d = 18
    · subst p
      by_cases q : s = 1
      · subst q; exact places_18 w
      · exact places_19 s (by omega) w
    by_cases p : d = 19
    · subst p
      by_cases q : s = 1
      · subst q; exact places_20 w
      rcases wide_cases s with ⟨sw, s0, s1⟩ | ⟨sw, s0, s1⟩ | ⟨sw, ss⟩
      · exact places_21 s sw s0 s1 (by omega) w
      · by_cases r : s = 9
        · subst r; exact places_22 w
        · exact places_23 s sw s0 s1 (by omega) (by omega) w
      · exact places_24 s sw (by omega) w
    exact places_0 d s dw (by omega) (by omega) (by omega) (by omega) w

end Go.Proofs.Ytbhkndblolegaaa
