/- The walks of isa86.two, by classes: 3. -/
import Derived.Test.YtbhkndblolegaaaIb
namespace Go.Proofs.Ytbhkndblolegaaa
open Go.RowKit
set_option linter.unusedVariables false
set_option linter.unusedSimpArgs false

set_option maxRecDepth 100000 in
set_option maxHeartbeats 2000000 in
theorem two_9A (op : Int) (d : Int) (s : Int) (p0 : 10 ≤ op) (xo17 : ¬ op = 17) (xo30 : ¬ op = 30) (xo31 : ¬ op = 31) (dw : wideL d = 8) (d0 : 1 ≤ d) (d1 : d ≤ 8) (sw : wideL s = 8) (s0 : 1 ≤ s) (s1 : s ≤ 8) (w : World) :
    Calls Try.prog 69 #[.int .i64 op, .int .i64 d, .int .i64 s] w (HeadIs w (twoL op d s)) := by
  have eq : twoL op d s = ([], 0) := by simp [twoL, *, sameL, wb, show (op == 1) = false by simp; omega, show ¬ op < 2 by omega, show 9 < op by omega]
  rw [eq]
  clear eq
  obtain ⟨c1, c2, c3, c4⟩ := or_consts
  have nd0 := numL_lo d
  have nd1 := numL_hi d
  have qd1 := or176 _ nd0 nd1
  have qd2 := or184 _ nd0 nd1
  have ns0 := numL_lo s
  have ns1 := numL_hi s
  have qs1 := or176 _ ns0 ns1
  have qs2 := or184 _ ns0 ns1
  go_enter Try.func69, Try.ntmps69
  go_wp2_with (first
    | (go_at_call 94; refine (wide_any _ _).mono ?_; rintro e w' ⟨rfl, rfl⟩)
    | (go_at_call 96; refine (num_any _ (by omega) (by omega) _).mono ?_; rintro e w' ⟨rfl, rfl⟩)
    | (go_at_call 98; refine (mem_any _ _ (by omega) (by omega) (by omega) (by omega) _).mono ?_; rintro e w' ⟨rfl, rfl⟩)
    | (go_at_call 95; refine (rm_any _ _ (by omega) (by omega) (by omega) (by omega) _).mono ?_; rintro e w' ⟨rfl, rfl⟩)
    | (go_at_call 71; refine (of_any _ _ _ _ _).mono ?_; rintro e w1 ⟨rfl, hb⟩; have k := res2 hb; obtain ⟨hc, hf⟩ := bcell hb))
  all_goals
    refine bodyPost_ret ?_ rfl (head_none (balloc (Below.refl _ _) _))
    simp [results, Try.results69, go_sem]

set_option maxRecDepth 100000 in
set_option maxHeartbeats 2000000 in
theorem two_9B (op : Int) (d : Int) (s : Int) (p0 : 10 ≤ op) (xo17 : ¬ op = 17) (xo30 : ¬ op = 30) (xo31 : ¬ op = 31) (dw : wideL d = 16) (d0 : 9 ≤ d) (d1 : d ≤ 16) (sw : wideL s = 16) (s0 : 9 ≤ s) (s1 : s ≤ 16) (w : World) :
    Calls Try.prog 69 #[.int .i64 op, .int .i64 d, .int .i64 s] w (HeadIs w (twoL op d s)) := by
  have eq : twoL op d s = ([], 0) := by simp [twoL, *, sameL, wb, show (op == 1) = false by simp; omega, show ¬ op < 2 by omega, show 9 < op by omega]
  rw [eq]
  clear eq
  obtain ⟨c1, c2, c3, c4⟩ := or_consts
  have nd0 := numL_lo d
  have nd1 := numL_hi d
  have qd1 := or176 _ nd0 nd1
  have qd2 := or184 _ nd0 nd1
  have ns0 := numL_lo s
  have ns1 := numL_hi s
  have qs1 := or176 _ ns0 ns1
  have qs2 := or184 _ ns0 ns1
  go_enter Try.func69, Try.ntmps69
  go_wp2_with (first
    | (go_at_call 94; refine (wide_any _ _).mono ?_; rintro e w' ⟨rfl, rfl⟩)
    | (go_at_call 96; refine (num_any _ (by omega) (by omega) _).mono ?_; rintro e w' ⟨rfl, rfl⟩)
    | (go_at_call 98; refine (mem_any _ _ (by omega) (by omega) (by omega) (by omega) _).mono ?_; rintro e w' ⟨rfl, rfl⟩)
    | (go_at_call 95; refine (rm_any _ _ (by omega) (by omega) (by omega) (by omega) _).mono ?_; rintro e w' ⟨rfl, rfl⟩)
    | (go_at_call 71; refine (of_any _ _ _ _ _).mono ?_; rintro e w1 ⟨rfl, hb⟩; have k := res2 hb; obtain ⟨hc, hf⟩ := bcell hb))
  all_goals
    refine bodyPost_ret ?_ rfl (head_none (balloc (Below.refl _ _) _))
    simp [results, Try.results69, go_sem]

set_option maxRecDepth 100000 in
set_option maxHeartbeats 2000000 in
theorem two_9C (op : Int) (d : Int) (s : Int) (p0 : 10 ≤ op) (xo17 : ¬ op = 17) (xo30 : ¬ op = 30) (xo31 : ¬ op = 31) (dw : wideL d = 8) (d0 : 1 ≤ d) (d1 : d ≤ 8) (sw : wideL s = 16) (s0 : 9 ≤ s) (s1 : s ≤ 16) (xs17 : ¬ s = 17) (xs20 : ¬ s = 20) (w : World) :
    Calls Try.prog 69 #[.int .i64 op, .int .i64 d, .int .i64 s] w (HeadIs w (twoL op d s)) := by
  have eq : twoL op d s = ([], 0) := by simp [twoL, *, sameL, wb, show (op == 1) = false by simp; omega, show ¬ op < 2 by omega, show 9 < op by omega]
  rw [eq]
  clear eq
  obtain ⟨c1, c2, c3, c4⟩ := or_consts
  have nd0 := numL_lo d
  have nd1 := numL_hi d
  have qd1 := or176 _ nd0 nd1
  have qd2 := or184 _ nd0 nd1
  go_enter Try.func69, Try.ntmps69
  go_wp2_with (first
    | (go_at_call 94; refine (wide_any _ _).mono ?_; rintro e w' ⟨rfl, rfl⟩)
    | (go_at_call 96; refine (num_any _ (by omega) (by omega) _).mono ?_; rintro e w' ⟨rfl, rfl⟩)
    | (go_at_call 98; refine (mem_any _ _ (by omega) (by omega) (by omega) (by omega) _).mono ?_; rintro e w' ⟨rfl, rfl⟩)
    | (go_at_call 95; refine (rm_any _ _ (by omega) (by omega) (by omega) (by omega) _).mono ?_; rintro e w' ⟨rfl, rfl⟩)
    | (go_at_call 71; refine (of_any _ _ _ _ _).mono ?_; rintro e w1 ⟨rfl, hb⟩; have k := res2 hb; obtain ⟨hc, hf⟩ := bcell hb))
  all_goals
    refine bodyPost_ret ?_ rfl (head_none (balloc (Below.refl _ _) _))
    simp [results, Try.results69, go_sem]

set_option maxRecDepth 100000 in
set_option maxHeartbeats 2000000 in
theorem two_9D (op : Int) (d : Int) (s : Int) (p0 : 10 ≤ op) (xo17 : ¬ op = 17) (xo30 : ¬ op = 30) (xo31 : ¬ op = 31) (dw : wideL d = 16) (d0 : 9 ≤ d) (d1 : d ≤ 16) (sw : wideL s = 8) (s0 : 1 ≤ s) (s1 : s ≤ 8) (xd1 : ¬ d = 1) (w : World) :
    Calls Try.prog 69 #[.int .i64 op, .int .i64 d, .int .i64 s] w (HeadIs w (twoL op d s)) := by
  have eq : twoL op d s = ([], 0) := by simp [twoL, *, sameL, wb, show (op == 1) = false by simp; omega, show ¬ op < 2 by omega, show 9 < op by omega]
  rw [eq]
  clear eq
  obtain ⟨c1, c2, c3, c4⟩ := or_consts
  have nd0 := numL_lo d
  have nd1 := numL_hi d
  have qd1 := or176 _ nd0 nd1
  have qd2 := or184 _ nd0 nd1
  go_enter Try.func69, Try.ntmps69
  go_wp2_with (first
    | (go_at_call 94; refine (wide_any _ _).mono ?_; rintro e w' ⟨rfl, rfl⟩)
    | (go_at_call 96; refine (num_any _ (by omega) (by omega) _).mono ?_; rintro e w' ⟨rfl, rfl⟩)
    | (go_at_call 98; refine (mem_any _ _ (by omega) (by omega) (by omega) (by omega) _).mono ?_; rintro e w' ⟨rfl, rfl⟩)
    | (go_at_call 95; refine (rm_any _ _ (by omega) (by omega) (by omega) (by omega) _).mono ?_; rintro e w' ⟨rfl, rfl⟩)
    | (go_at_call 71; refine (of_any _ _ _ _ _).mono ?_; rintro e w1 ⟨rfl, hb⟩; have k := res2 hb; obtain ⟨hc, hf⟩ := bcell hb))
  all_goals
    refine bodyPost_ret ?_ rfl (head_none (balloc (Below.refl _ _) _))
    simp [results, Try.results69, go_sem]

set_option maxRecDepth 100000 in
set_option maxHeartbeats 2000000 in
theorem two_9E (op : Int) (d : Int) (s : Int) (p0 : 10 ≤ op) (xo17 : ¬ op = 17) (xo30 : ¬ op = 30) (xo31 : ¬ op = 31) (dw : wideL d = 8) (d0 : 1 ≤ d) (d1 : d ≤ 8) (sw : wideL s = 0) (xs1 : ¬ s = 1) (w : World) :
    Calls Try.prog 69 #[.int .i64 op, .int .i64 d, .int .i64 s] w (HeadIs w (twoL op d s)) := by
  have eq : twoL op d s = ([], 0) := by simp [twoL, *, sameL, wb, show (op == 1) = false by simp; omega, show ¬ op < 2 by omega, show 9 < op by omega]
  rw [eq]
  clear eq
  obtain ⟨c1, c2, c3, c4⟩ := or_consts
  have nd0 := numL_lo d
  have nd1 := numL_hi d
  have qd1 := or176 _ nd0 nd1
  have qd2 := or184 _ nd0 nd1
  go_enter Try.func69, Try.ntmps69
  go_wp2_with (first
    | (go_at_call 94; refine (wide_any _ _).mono ?_; rintro e w' ⟨rfl, rfl⟩)
    | (go_at_call 96; refine (num_any _ (by omega) (by omega) _).mono ?_; rintro e w' ⟨rfl, rfl⟩)
    | (go_at_call 98; refine (mem_any _ _ (by omega) (by omega) (by omega) (by omega) _).mono ?_; rintro e w' ⟨rfl, rfl⟩)
    | (go_at_call 95; refine (rm_any _ _ (by omega) (by omega) (by omega) (by omega) _).mono ?_; rintro e w' ⟨rfl, rfl⟩)
    | (go_at_call 71; refine (of_any _ _ _ _ _).mono ?_; rintro e w1 ⟨rfl, hb⟩; have k := res2 hb; obtain ⟨hc, hf⟩ := bcell hb))
  all_goals
    refine bodyPost_ret ?_ rfl (head_none (balloc (Below.refl _ _) _))
    simp [results, Try.results69, go_sem]

set_option maxRecDepth 100000 in
set_option maxHeartbeats 2000000 in
theorem two_9F (op : Int) (d : Int) (s : Int) (p0 : 10 ≤ op) (xo17 : ¬ op = 17) (xo30 : ¬ op = 30) (xo31 : ¬ op = 31) (dw : wideL d = 16) (d0 : 9 ≤ d) (d1 : d ≤ 16) (sw : wideL s = 0) (xd1 : ¬ d = 1) (xs1 : ¬ s = 1) (w : World) :
    Calls Try.prog 69 #[.int .i64 op, .int .i64 d, .int .i64 s] w (HeadIs w (twoL op d s)) := by
  have eq : twoL op d s = ([], 0) := by simp [twoL, *, sameL, wb, show (op == 1) = false by simp; omega, show ¬ op < 2 by omega, show 9 < op by omega]
  rw [eq]
  clear eq
  obtain ⟨c1, c2, c3, c4⟩ := or_consts
  have nd0 := numL_lo d
  have nd1 := numL_hi d
  have qd1 := or176 _ nd0 nd1
  have qd2 := or184 _ nd0 nd1
  go_enter Try.func69, Try.ntmps69
  go_wp2_with (first
    | (go_at_call 94; refine (wide_any _ _).mono ?_; rintro e w' ⟨rfl, rfl⟩)
    | (go_at_call 96; refine (num_any _ (by omega) (by omega) _).mono ?_; rintro e w' ⟨rfl, rfl⟩)
    | (go_at_call 98; refine (mem_any _ _ (by omega) (by omega) (by omega) (by omega) _).mono ?_; rintro e w' ⟨rfl, rfl⟩)
    | (go_at_call 95; refine (rm_any _ _ (by omega) (by omega) (by omega) (by omega) _).mono ?_; rintro e w' ⟨rfl, rfl⟩)
    | (go_at_call 71; refine (of_any _ _ _ _ _).mono ?_; rintro e w1 ⟨rfl, hb⟩; have k := res2 hb; obtain ⟨hc, hf⟩ := bcell hb))
  all_goals
    refine bodyPost_ret ?_ rfl (head_none (balloc (Below.refl _ _) _))
    simp [results, Try.results69, go_sem]

set_option maxRecDepth 100000 in
set_option maxHeartbeats 2000000 in
theorem two_9G (op : Int) (d : Int) (s : Int) (p0 : 10 ≤ op) (xo17 : ¬ op = 17) (xo30 : ¬ op = 30) (xo31 : ¬ op = 31) (dw : wideL d = 0) (xd1 : ¬ d = 1) (w : World) :
    Calls Try.prog 69 #[.int .i64 op, .int .i64 d, .int .i64 s] w (HeadIs w (twoL op d s)) := by
  have eq : twoL op d s = ([], 0) := by simp [twoL, *, sameL, wb, show (op == 1) = false by simp; omega, show ¬ op < 2 by omega, show 9 < op by omega]
  rw [eq]
  clear eq
  obtain ⟨c1, c2, c3, c4⟩ := or_consts
  go_enter Try.func69, Try.ntmps69
  go_wp2_with (first
    | (go_at_call 94; refine (wide_any _ _).mono ?_; rintro e w' ⟨rfl, rfl⟩)
    | (go_at_call 96; refine (num_any _ (by omega) (by omega) _).mono ?_; rintro e w' ⟨rfl, rfl⟩)
    | (go_at_call 98; refine (mem_any _ _ (by omega) (by omega) (by omega) (by omega) _).mono ?_; rintro e w' ⟨rfl, rfl⟩)
    | (go_at_call 95; refine (rm_any _ _ (by omega) (by omega) (by omega) (by omega) _).mono ?_; rintro e w' ⟨rfl, rfl⟩)
    | (go_at_call 71; refine (of_any _ _ _ _ _).mono ?_; rintro e w1 ⟨rfl, hb⟩; have k := res2 hb; obtain ⟨hc, hf⟩ := bcell hb))
  all_goals
    refine bodyPost_ret ?_ rfl (head_none (balloc (Below.refl _ _) _))
    simp [results, Try.results69, go_sem]

set_option maxRecDepth 100000 in
set_option maxHeartbeats 2000000 in
theorem two_17A (d : Int) (s : Int) (dw : wideL d = 8) (d0 : 1 ≤ d) (d1 : d ≤ 8) (sw : wideL s = 8) (s0 : 1 ≤ s) (s1 : s ≤ 8) (xd9 : ¬ d = 9) (xs9 : ¬ s = 9) (w : World) :
    Calls Try.prog 69 #[.int .i64 17, .int .i64 d, .int .i64 s] w (HeadIs w (twoL 17 d s)) := by
  have eq : twoL 17 d s = ([134, 192 + numL s * 8 + numL d], 0) := by simp [twoL, *, sameL, wb]
  rw [eq]
  clear eq
  obtain ⟨c1, c2, c3, c4⟩ := or_consts
  have nd0 := numL_lo d
  have nd1 := numL_hi d
  have qd1 := or176 _ nd0 nd1
  have qd2 := or184 _ nd0 nd1
  have ns0 := numL_lo s
  have ns1 := numL_hi s
  have qs1 := or176 _ ns0 ns1
  have qs2 := or184 _ ns0 ns1
  have yd9 : (d != 9) = true := by simp [xd9]
  have ys9 : (s != 9) = true := by simp [xs9]
  go_enter Try.func69, Try.ntmps69
  go_wp2_with (first
    | (go_at_call 94; refine (wide_any _ _).mono ?_; rintro e w' ⟨rfl, rfl⟩)
    | (go_at_call 96; refine (num_any _ (by omega) (by omega) _).mono ?_; rintro e w' ⟨rfl, rfl⟩)
    | (go_at_call 98; refine (mem_any _ _ (by omega) (by omega) (by omega) (by omega) _).mono ?_; rintro e w' ⟨rfl, rfl⟩)
    | (go_at_call 95; refine (rm_any _ _ (by omega) (by omega) (by omega) (by omega) _).mono ?_; rintro e w' ⟨rfl, rfl⟩)
    | (go_at_call 71; refine (of_any _ _ _ _ _).mono ?_; rintro e w1 ⟨rfl, hb⟩; have k := res2 hb; obtain ⟨hc, hf⟩ := bcell hb))
  all_goals
    refine bodyPost_ret ?_ rfl (head_leaf2 hb)
    simp [results, Try.results69, go_sem, k]

set_option maxRecDepth 100000 in
set_option maxHeartbeats 2000000 in
theorem two_17B (d : Int) (s : Int) (dw : wideL d = 16) (d0 : 9 ≤ d) (d1 : d ≤ 16) (sw : wideL s = 16) (s0 : 9 ≤ s) (s1 : s ≤ 16) (xd9 : ¬ d = 9) (xs9 : ¬ s = 9) (w : World) :
    Calls Try.prog 69 #[.int .i64 17, .int .i64 d, .int .i64 s] w (HeadIs w (twoL 17 d s)) := by
  have eq : twoL 17 d s = ([135, 192 + numL s * 8 + numL d], 0) := by simp [twoL, *, sameL, wb]
  rw [eq]
  clear eq
  obtain ⟨c1, c2, c3, c4⟩ := or_consts
  have nd0 := numL_lo d
  have nd1 := numL_hi d
  have qd1 := or176 _ nd0 nd1
  have qd2 := or184 _ nd0 nd1
  have ns0 := numL_lo s
  have ns1 := numL_hi s
  have qs1 := or176 _ ns0 ns1
  have qs2 := or184 _ ns0 ns1
  have yd9 : (d != 9) = true := by simp [xd9]
  have ys9 : (s != 9) = true := by simp [xs9]
  go_enter Try.func69, Try.ntmps69
  go_wp2_with (first
    | (go_at_call 94; refine (wide_any _ _).mono ?_; rintro e w' ⟨rfl, rfl⟩)
    | (go_at_call 96; refine (num_any _ (by omega) (by omega) _).mono ?_; rintro e w' ⟨rfl, rfl⟩)
    | (go_at_call 98; refine (mem_any _ _ (by omega) (by omega) (by omega) (by omega) _).mono ?_; rintro e w' ⟨rfl, rfl⟩)
    | (go_at_call 95; refine (rm_any _ _ (by omega) (by omega) (by omega) (by omega) _).mono ?_; rintro e w' ⟨rfl, rfl⟩)
    | (go_at_call 71; refine (of_any _ _ _ _ _).mono ?_; rintro e w1 ⟨rfl, hb⟩; have k := res2 hb; obtain ⟨hc, hf⟩ := bcell hb))
  all_goals
    refine bodyPost_ret ?_ rfl (head_leaf2 hb)
    simp [results, Try.results69, go_sem, k]

set_option maxRecDepth 100000 in
set_option maxHeartbeats 2000000 in
theorem two_17B9 (s : Int) (sw : wideL s = 16) (s0 : 9 ≤ s) (s1 : s ≤ 16) (w : World) :
    Calls Try.prog 69 #[.int .i64 17, .int .i64 9, .int .i64 s] w (HeadIs w (twoL 17 9 s)) := by
  have eq : twoL 17 9 s = ([], 0) := by simp [twoL, *, sameL, wb, show wideL 9 = 16 by decide]
  rw [eq]
  clear eq
  obtain ⟨c1, c2, c3, c4⟩ := or_consts
  have ns0 := numL_lo s
  have ns1 := numL_hi s
  have qs1 := or176 _ ns0 ns1
  have qs2 := or184 _ ns0 ns1
  have lw9 : wideL 9 = 16 := by decide
  go_enter Try.func69, Try.ntmps69
  go_wp2_with (first
    | (go_at_call 94; refine (wide_any _ _).mono ?_; rintro e w' ⟨rfl, rfl⟩)
    | (go_at_call 96; refine (num_any _ (by omega) (by omega) _).mono ?_; rintro e w' ⟨rfl, rfl⟩)
    | (go_at_call 98; refine (mem_any _ _ (by omega) (by omega) (by omega) (by omega) _).mono ?_; rintro e w' ⟨rfl, rfl⟩)
    | (go_at_call 95; refine (rm_any _ _ (by omega) (by omega) (by omega) (by omega) _).mono ?_; rintro e w' ⟨rfl, rfl⟩)
    | (go_at_call 71; refine (of_any _ _ _ _ _).mono ?_; rintro e w1 ⟨rfl, hb⟩; have k := res2 hb; obtain ⟨hc, hf⟩ := bcell hb))
  all_goals
    refine bodyPost_ret ?_ rfl (head_none (balloc (Below.refl _ _) _))
    simp [results, Try.results69, go_sem]

set_option maxRecDepth 100000 in
set_option maxHeartbeats 2000000 in
theorem two_17Bs (d : Int)  (dw : wideL d = 16) (d0 : 9 ≤ d) (d1 : d ≤ 16) (xd9 : ¬ d = 9) (w : World) :
    Calls Try.prog 69 #[.int .i64 17, .int .i64 d, .int .i64 9] w (HeadIs w (twoL 17 d 9)) := by
  have eq : twoL 17 d 9 = ([], 0) := by simp [twoL, *, sameL, wb, show wideL 9 = 16 by decide]
  rw [eq]
  clear eq
  obtain ⟨c1, c2, c3, c4⟩ := or_consts
  have nd0 := numL_lo d
  have nd1 := numL_hi d
  have qd1 := or176 _ nd0 nd1
  have qd2 := or184 _ nd0 nd1
  have lw9 : wideL 9 = 16 := by decide
  have yd9 : (d != 9) = true := by simp [xd9]
  go_enter Try.func69, Try.ntmps69
  go_wp2_with (first
    | (go_at_call 94; refine (wide_any _ _).mono ?_; rintro e w' ⟨rfl, rfl⟩)
    | (go_at_call 96; refine (num_any _ (by omega) (by omega) _).mono ?_; rintro e w' ⟨rfl, rfl⟩)
    | (go_at_call 98; refine (mem_any _ _ (by omega) (by omega) (by omega) (by omega) _).mono ?_; rintro e w' ⟨rfl, rfl⟩)
    | (go_at_call 95; refine (rm_any _ _ (by omega) (by omega) (by omega) (by omega) _).mono ?_; rintro e w' ⟨rfl, rfl⟩)
    | (go_at_call 71; refine (of_any _ _ _ _ _).mono ?_; rintro e w1 ⟨rfl, hb⟩; have k := res2 hb; obtain ⟨hc, hf⟩ := bcell hb))
  all_goals
    refine bodyPost_ret ?_ rfl (head_none (balloc (Below.refl _ _) _))
    simp [results, Try.results69, go_sem]

set_option maxRecDepth 100000 in
set_option maxHeartbeats 2000000 in
theorem two_17C (d : Int) (s : Int) (dw : wideL d = 8) (d0 : 1 ≤ d) (d1 : d ≤ 8) (sw : wideL s = 16) (s0 : 9 ≤ s) (s1 : s ≤ 16) (xs17 : ¬ s = 17) (xs20 : ¬ s = 20) (w : World) :
    Calls Try.prog 69 #[.int .i64 17, .int .i64 d, .int .i64 s] w (HeadIs w (twoL 17 d s)) := by
  have eq : twoL 17 d s = ([], 0) := by simp [twoL, *, sameL, wb]
  rw [eq]
  clear eq
  obtain ⟨c1, c2, c3, c4⟩ := or_consts
  have nd0 := numL_lo d
  have nd1 := numL_hi d
  have qd1 := or176 _ nd0 nd1
  have qd2 := or184 _ nd0 nd1
  go_enter Try.func69, Try.ntmps69
  go_wp2_with (first
    | (go_at_call 94; refine (wide_any _ _).mono ?_; rintro e w' ⟨rfl, rfl⟩)
    | (go_at_call 96; refine (num_any _ (by omega) (by omega) _).mono ?_; rintro e w' ⟨rfl, rfl⟩)
    | (go_at_call 98; refine (mem_any _ _ (by omega) (by omega) (by omega) (by omega) _).mono ?_; rintro e w' ⟨rfl, rfl⟩)
    | (go_at_call 95; refine (rm_any _ _ (by omega) (by omega) (by omega) (by omega) _).mono ?_; rintro e w' ⟨rfl, rfl⟩)
    | (go_at_call 71; refine (of_any _ _ _ _ _).mono ?_; rintro e w1 ⟨rfl, hb⟩; have k := res2 hb; obtain ⟨hc, hf⟩ := bcell hb))
  all_goals
    refine bodyPost_ret ?_ rfl (head_none (balloc (Below.refl _ _) _))
    simp [results, Try.results69, go_sem]

set_option maxRecDepth 100000 in
set_option maxHeartbeats 2000000 in
theorem two_17D (d : Int) (s : Int) (dw : wideL d = 16) (d0 : 9 ≤ d) (d1 : d ≤ 16) (sw : wideL s = 8) (s0 : 1 ≤ s) (s1 : s ≤ 8) (xd1 : ¬ d = 1) (w : World) :
    Calls Try.prog 69 #[.int .i64 17, .int .i64 d, .int .i64 s] w (HeadIs w (twoL 17 d s)) := by
  have eq : twoL 17 d s = ([], 0) := by simp [twoL, *, sameL, wb]
  rw [eq]
  clear eq
  obtain ⟨c1, c2, c3, c4⟩ := or_consts
  have nd0 := numL_lo d
  have nd1 := numL_hi d
  have qd1 := or176 _ nd0 nd1
  have qd2 := or184 _ nd0 nd1
  go_enter Try.func69, Try.ntmps69
  go_wp2_with (first
    | (go_at_call 94; refine (wide_any _ _).mono ?_; rintro e w' ⟨rfl, rfl⟩)
    | (go_at_call 96; refine (num_any _ (by omega) (by omega) _).mono ?_; rintro e w' ⟨rfl, rfl⟩)
    | (go_at_call 98; refine (mem_any _ _ (by omega) (by omega) (by omega) (by omega) _).mono ?_; rintro e w' ⟨rfl, rfl⟩)
    | (go_at_call 95; refine (rm_any _ _ (by omega) (by omega) (by omega) (by omega) _).mono ?_; rintro e w' ⟨rfl, rfl⟩)
    | (go_at_call 71; refine (of_any _ _ _ _ _).mono ?_; rintro e w1 ⟨rfl, hb⟩; have k := res2 hb; obtain ⟨hc, hf⟩ := bcell hb))
  all_goals
    refine bodyPost_ret ?_ rfl (head_none (balloc (Below.refl _ _) _))
    simp [results, Try.results69, go_sem]

set_option maxRecDepth 100000 in
set_option maxHeartbeats 2000000 in
theorem two_17E (d : Int) (s : Int) (dw : wideL d = 8) (d0 : 1 ≤ d) (d1 : d ≤ 8) (sw : wideL s = 0) (xs1 : ¬ s = 1) (w : World) :
    Calls Try.prog 69 #[.int .i64 17, .int .i64 d, .int .i64 s] w (HeadIs w (twoL 17 d s)) := by
  have eq : twoL 17 d s = ([], 0) := by simp [twoL, *, sameL, wb]
  rw [eq]
  clear eq
  obtain ⟨c1, c2, c3, c4⟩ := or_consts
  have nd0 := numL_lo d
  have nd1 := numL_hi d
  have qd1 := or176 _ nd0 nd1
  have qd2 := or184 _ nd0 nd1
  go_enter Try.func69, Try.ntmps69
  go_wp2_with (first
    | (go_at_call 94; refine (wide_any _ _).mono ?_; rintro e w' ⟨rfl, rfl⟩)
    | (go_at_call 96; refine (num_any _ (by omega) (by omega) _).mono ?_; rintro e w' ⟨rfl, rfl⟩)
    | (go_at_call 98; refine (mem_any _ _ (by omega) (by omega) (by omega) (by omega) _).mono ?_; rintro e w' ⟨rfl, rfl⟩)
    | (go_at_call 95; refine (rm_any _ _ (by omega) (by omega) (by omega) (by omega) _).mono ?_; rintro e w' ⟨rfl, rfl⟩)
    | (go_at_call 71; refine (of_any _ _ _ _ _).mono ?_; rintro e w1 ⟨rfl, hb⟩; have k := res2 hb; obtain ⟨hc, hf⟩ := bcell hb))
  all_goals
    refine bodyPost_ret ?_ rfl (head_none (balloc (Below.refl _ _) _))
    simp [results, Try.results69, go_sem]

set_option maxRecDepth 100000 in
set_option maxHeartbeats 2000000 in
theorem two_17F (d : Int) (s : Int) (dw : wideL d = 16) (d0 : 9 ≤ d) (d1 : d ≤ 16) (sw : wideL s = 0) (xd1 : ¬ d = 1) (xs1 : ¬ s = 1) (w : World) :
    Calls Try.prog 69 #[.int .i64 17, .int .i64 d, .int .i64 s] w (HeadIs w (twoL 17 d s)) := by
  have eq : twoL 17 d s = ([], 0) := by simp [twoL, *, sameL, wb]
  rw [eq]
  clear eq
  obtain ⟨c1, c2, c3, c4⟩ := or_consts
  have nd0 := numL_lo d
  have nd1 := numL_hi d
  have qd1 := or176 _ nd0 nd1
  have qd2 := or184 _ nd0 nd1
  go_enter Try.func69, Try.ntmps69
  go_wp2_with (first
    | (go_at_call 94; refine (wide_any _ _).mono ?_; rintro e w' ⟨rfl, rfl⟩)
    | (go_at_call 96; refine (num_any _ (by omega) (by omega) _).mono ?_; rintro e w' ⟨rfl, rfl⟩)
    | (go_at_call 98; refine (mem_any _ _ (by omega) (by omega) (by omega) (by omega) _).mono ?_; rintro e w' ⟨rfl, rfl⟩)
    | (go_at_call 95; refine (rm_any _ _ (by omega) (by omega) (by omega) (by omega) _).mono ?_; rintro e w' ⟨rfl, rfl⟩)
    | (go_at_call 71; refine (of_any _ _ _ _ _).mono ?_; rintro e w1 ⟨rfl, hb⟩; have k := res2 hb; obtain ⟨hc, hf⟩ := bcell hb))
  all_goals
    refine bodyPost_ret ?_ rfl (head_none (balloc (Below.refl _ _) _))
    simp [results, Try.results69, go_sem]

set_option maxRecDepth 100000 in
set_option maxHeartbeats 2000000 in
theorem two_17G (d : Int) (s : Int) (dw : wideL d = 0) (xd1 : ¬ d = 1) (w : World) :
    Calls Try.prog 69 #[.int .i64 17, .int .i64 d, .int .i64 s] w (HeadIs w (twoL 17 d s)) := by
  have eq : twoL 17 d s = ([], 0) := by simp [twoL, *, sameL, wb]
  rw [eq]
  clear eq
  obtain ⟨c1, c2, c3, c4⟩ := or_consts
  go_enter Try.func69, Try.ntmps69
  go_wp2_with (first
    | (go_at_call 94; refine (wide_any _ _).mono ?_; rintro e w' ⟨rfl, rfl⟩)
    | (go_at_call 96; refine (num_any _ (by omega) (by omega) _).mono ?_; rintro e w' ⟨rfl, rfl⟩)
    | (go_at_call 98; refine (mem_any _ _ (by omega) (by omega) (by omega) (by omega) _).mono ?_; rintro e w' ⟨rfl, rfl⟩)
    | (go_at_call 95; refine (rm_any _ _ (by omega) (by omega) (by omega) (by omega) _).mono ?_; rintro e w' ⟨rfl, rfl⟩)
    | (go_at_call 71; refine (of_any _ _ _ _ _).mono ?_; rintro e w1 ⟨rfl, hb⟩; have k := res2 hb; obtain ⟨hc, hf⟩ := bcell hb))
  all_goals
    refine bodyPost_ret ?_ rfl (head_none (balloc (Below.refl _ _) _))
    simp [results, Try.results69, go_sem]

set_option maxRecDepth 100000 in
set_option maxHeartbeats 2000000 in
theorem two_30A (d : Int) (s : Int) (dw : wideL d = 8) (d0 : 1 ≤ d) (d1 : d ≤ 8) (sw : wideL s = 8) (s0 : 1 ≤ s) (s1 : s ≤ 8) (xs20 : ¬ s = 20) (w : World) :
    Calls Try.prog 69 #[.int .i64 30, .int .i64 d, .int .i64 s] w (HeadIs w (twoL 30 d s)) := by
  have eq : twoL 30 d s = ([], 0) := by simp [twoL, *, sameL, wb]
  rw [eq]
  clear eq
  obtain ⟨c1, c2, c3, c4⟩ := or_consts
  have nd0 := numL_lo d
  have nd1 := numL_hi d
  have qd1 := or176 _ nd0 nd1
  have qd2 := or184 _ nd0 nd1
  have ns0 := numL_lo s
  have ns1 := numL_hi s
  have qs1 := or176 _ ns0 ns1
  have qs2 := or184 _ ns0 ns1
  go_enter Try.func69, Try.ntmps69
  go_wp2_with (first
    | (go_at_call 94; refine (wide_any _ _).mono ?_; rintro e w' ⟨rfl, rfl⟩)
    | (go_at_call 96; refine (num_any _ (by omega) (by omega) _).mono ?_; rintro e w' ⟨rfl, rfl⟩)
    | (go_at_call 98; refine (mem_any _ _ (by omega) (by omega) (by omega) (by omega) _).mono ?_; rintro e w' ⟨rfl, rfl⟩)
    | (go_at_call 95; refine (rm_any _ _ (by omega) (by omega) (by omega) (by omega) _).mono ?_; rintro e w' ⟨rfl, rfl⟩)
    | (go_at_call 71; refine (of_any _ _ _ _ _).mono ?_; rintro e w1 ⟨rfl, hb⟩; have k := res2 hb; obtain ⟨hc, hf⟩ := bcell hb))
  all_goals
    refine bodyPost_ret ?_ rfl (head_none (balloc (Below.refl _ _) _))
    simp [results, Try.results69, go_sem]

set_option maxRecDepth 100000 in
set_option maxHeartbeats 2000000 in
theorem two_30B (d : Int) (s : Int) (dw : wideL d = 16) (d0 : 9 ≤ d) (d1 : d ≤ 16) (sw : wideL s = 16) (s0 : 9 ≤ s) (s1 : s ≤ 16) (xs20 : ¬ s = 20) (w : World) :
    Calls Try.prog 69 #[.int .i64 30, .int .i64 d, .int .i64 s] w (HeadIs w (twoL 30 d s)) := by
  have eq : twoL 30 d s = ([], 0) := by simp [twoL, *, sameL, wb]
  rw [eq]
  clear eq
  obtain ⟨c1, c2, c3, c4⟩ := or_consts
  have nd0 := numL_lo d
  have nd1 := numL_hi d
  have qd1 := or176 _ nd0 nd1
  have qd2 := or184 _ nd0 nd1
  have ns0 := numL_lo s
  have ns1 := numL_hi s
  have qs1 := or176 _ ns0 ns1
  have qs2 := or184 _ ns0 ns1
  go_enter Try.func69, Try.ntmps69
  go_wp2_with (first
    | (go_at_call 94; refine (wide_any _ _).mono ?_; rintro e w' ⟨rfl, rfl⟩)
    | (go_at_call 96; refine (num_any _ (by omega) (by omega) _).mono ?_; rintro e w' ⟨rfl, rfl⟩)
    | (go_at_call 98; refine (mem_any _ _ (by omega) (by omega) (by omega) (by omega) _).mono ?_; rintro e w' ⟨rfl, rfl⟩)
    | (go_at_call 95; refine (rm_any _ _ (by omega) (by omega) (by omega) (by omega) _).mono ?_; rintro e w' ⟨rfl, rfl⟩)
    | (go_at_call 71; refine (of_any _ _ _ _ _).mono ?_; rintro e w1 ⟨rfl, hb⟩; have k := res2 hb; obtain ⟨hc, hf⟩ := bcell hb))
  all_goals
    refine bodyPost_ret ?_ rfl (head_none (balloc (Below.refl _ _) _))
    simp [results, Try.results69, go_sem]

set_option maxRecDepth 100000 in
set_option maxHeartbeats 2000000 in
theorem two_30C (d : Int) (s : Int) (dw : wideL d = 8) (d0 : 1 ≤ d) (d1 : d ≤ 8) (sw : wideL s = 16) (s0 : 9 ≤ s) (s1 : s ≤ 16) (xs17 : ¬ s = 17) (xs20 : ¬ s = 20) (w : World) :
    Calls Try.prog 69 #[.int .i64 30, .int .i64 d, .int .i64 s] w (HeadIs w (twoL 30 d s)) := by
  have eq : twoL 30 d s = ([], 0) := by simp [twoL, *, sameL, wb]
  rw [eq]
  clear eq
  obtain ⟨c1, c2, c3, c4⟩ := or_consts
  have nd0 := numL_lo d
  have nd1 := numL_hi d
  have qd1 := or176 _ nd0 nd1
  have qd2 := or184 _ nd0 nd1
  go_enter Try.func69, Try.ntmps69
  go_wp2_with (first
    | (go_at_call 94; refine (wide_any _ _).mono ?_; rintro e w' ⟨rfl, rfl⟩)
    | (go_at_call 96; refine (num_any _ (by omega) (by omega) _).mono ?_; rintro e w' ⟨rfl, rfl⟩)
    | (go_at_call 98; refine (mem_any _ _ (by omega) (by omega) (by omega) (by omega) _).mono ?_; rintro e w' ⟨rfl, rfl⟩)
    | (go_at_call 95; refine (rm_any _ _ (by omega) (by omega) (by omega) (by omega) _).mono ?_; rintro e w' ⟨rfl, rfl⟩)
    | (go_at_call 71; refine (of_any _ _ _ _ _).mono ?_; rintro e w1 ⟨rfl, hb⟩; have k := res2 hb; obtain ⟨hc, hf⟩ := bcell hb))
  all_goals
    refine bodyPost_ret ?_ rfl (head_none (balloc (Below.refl _ _) _))
    simp [results, Try.results69, go_sem]

set_option maxRecDepth 100000 in
set_option maxHeartbeats 2000000 in
theorem two_30D (d : Int) (s : Int) (dw : wideL d = 16) (d0 : 9 ≤ d) (d1 : d ≤ 16) (sw : wideL s = 8) (s0 : 1 ≤ s) (s1 : s ≤ 8) (xd1 : ¬ d = 1) (xs20 : ¬ s = 20) (w : World) :
    Calls Try.prog 69 #[.int .i64 30, .int .i64 d, .int .i64 s] w (HeadIs w (twoL 30 d s)) := by
  have eq : twoL 30 d s = ([], 0) := by simp [twoL, *, sameL, wb]
  rw [eq]
  clear eq
  obtain ⟨c1, c2, c3, c4⟩ := or_consts
  have nd0 := numL_lo d
  have nd1 := numL_hi d
  have qd1 := or176 _ nd0 nd1
  have qd2 := or184 _ nd0 nd1
  go_enter Try.func69, Try.ntmps69
  go_wp2_with (first
    | (go_at_call 94; refine (wide_any _ _).mono ?_; rintro e w' ⟨rfl, rfl⟩)
    | (go_at_call 96; refine (num_any _ (by omega) (by omega) _).mono ?_; rintro e w' ⟨rfl, rfl⟩)
    | (go_at_call 98; refine (mem_any _ _ (by omega) (by omega) (by omega) (by omega) _).mono ?_; rintro e w' ⟨rfl, rfl⟩)
    | (go_at_call 95; refine (rm_any _ _ (by omega) (by omega) (by omega) (by omega) _).mono ?_; rintro e w' ⟨rfl, rfl⟩)
    | (go_at_call 71; refine (of_any _ _ _ _ _).mono ?_; rintro e w1 ⟨rfl, hb⟩; have k := res2 hb; obtain ⟨hc, hf⟩ := bcell hb))
  all_goals
    refine bodyPost_ret ?_ rfl (head_none (balloc (Below.refl _ _) _))
    simp [results, Try.results69, go_sem]

set_option maxRecDepth 100000 in
set_option maxHeartbeats 2000000 in
theorem two_30F (d : Int) (s : Int) (dw : wideL d = 16) (d0 : 9 ≤ d) (d1 : d ≤ 16) (sw : wideL s = 0) (xd1 : ¬ d = 1) (xs1 : ¬ s = 1) (w : World) :
    Calls Try.prog 69 #[.int .i64 30, .int .i64 d, .int .i64 s] w (HeadIs w (twoL 30 d s)) := by
  have eq : twoL 30 d s = ([], 0) := by simp [twoL, *, sameL, wb]
  rw [eq]
  clear eq
  obtain ⟨c1, c2, c3, c4⟩ := or_consts
  have nd0 := numL_lo d
  have nd1 := numL_hi d
  have qd1 := or176 _ nd0 nd1
  have qd2 := or184 _ nd0 nd1
  go_enter Try.func69, Try.ntmps69
  go_wp2_with (first
    | (go_at_call 94; refine (wide_any _ _).mono ?_; rintro e w' ⟨rfl, rfl⟩)
    | (go_at_call 96; refine (num_any _ (by omega) (by omega) _).mono ?_; rintro e w' ⟨rfl, rfl⟩)
    | (go_at_call 98; refine (mem_any _ _ (by omega) (by omega) (by omega) (by omega) _).mono ?_; rintro e w' ⟨rfl, rfl⟩)
    | (go_at_call 95; refine (rm_any _ _ (by omega) (by omega) (by omega) (by omega) _).mono ?_; rintro e w' ⟨rfl, rfl⟩)
    | (go_at_call 71; refine (of_any _ _ _ _ _).mono ?_; rintro e w1 ⟨rfl, hb⟩; have k := res2 hb; obtain ⟨hc, hf⟩ := bcell hb))
  all_goals
    refine bodyPost_ret ?_ rfl (head_none (balloc (Below.refl _ _) _))
    simp [results, Try.results69, go_sem]

set_option maxRecDepth 100000 in
set_option maxHeartbeats 2000000 in
theorem two_30G (d : Int) (s : Int) (dw : wideL d = 0) (xd1 : ¬ d = 1) (w : World) :
    Calls Try.prog 69 #[.int .i64 30, .int .i64 d, .int .i64 s] w (HeadIs w (twoL 30 d s)) := by
  have eq : twoL 30 d s = ([], 0) := by simp [twoL, *, sameL, wb]
  rw [eq]
  clear eq
  obtain ⟨c1, c2, c3, c4⟩ := or_consts
  go_enter Try.func69, Try.ntmps69
  go_wp2_with (first
    | (go_at_call 94; refine (wide_any _ _).mono ?_; rintro e w' ⟨rfl, rfl⟩)
    | (go_at_call 96; refine (num_any _ (by omega) (by omega) _).mono ?_; rintro e w' ⟨rfl, rfl⟩)
    | (go_at_call 98; refine (mem_any _ _ (by omega) (by omega) (by omega) (by omega) _).mono ?_; rintro e w' ⟨rfl, rfl⟩)
    | (go_at_call 95; refine (rm_any _ _ (by omega) (by omega) (by omega) (by omega) _).mono ?_; rintro e w' ⟨rfl, rfl⟩)
    | (go_at_call 71; refine (of_any _ _ _ _ _).mono ?_; rintro e w1 ⟨rfl, hb⟩; have k := res2 hb; obtain ⟨hc, hf⟩ := bcell hb))
  all_goals
    refine bodyPost_ret ?_ rfl (head_none (balloc (Below.refl _ _) _))
    simp [results, Try.results69, go_sem]

set_option maxRecDepth 100000 in
set_option maxHeartbeats 2000000 in
theorem two_30Ea   (w : World) :
    Calls Try.prog 69 #[.int .i64 30, .int .i64 1, .int .i64 20] w (HeadIs w (twoL 30 1 20)) := by
  have eq : twoL 30 1 20 = ([228], 1) := by simp [twoL, *, sameL, wb, show wideL 1 = 8 by decide, show wideL 20 = 0 by decide]
  rw [eq]
  clear eq
  obtain ⟨c1, c2, c3, c4⟩ := or_consts
  have lw1 : wideL 1 = 8 := by decide
  have lw20 : wideL 20 = 0 := by decide
  go_enter Try.func69, Try.ntmps69
  go_wp2_with (first
    | (go_at_call 94; refine (wide_any _ _).mono ?_; rintro e w' ⟨rfl, rfl⟩)
    | (go_at_call 96; refine (num_any _ (by omega) (by omega) _).mono ?_; rintro e w' ⟨rfl, rfl⟩)
    | (go_at_call 98; refine (mem_any _ _ (by omega) (by omega) (by omega) (by omega) _).mono ?_; rintro e w' ⟨rfl, rfl⟩)
    | (go_at_call 95; refine (rm_any _ _ (by omega) (by omega) (by omega) (by omega) _).mono ?_; rintro e w' ⟨rfl, rfl⟩)
    | (go_at_call 71; refine (of_any _ _ _ _ _).mono ?_; rintro e w1 ⟨rfl, hb⟩; have k := res2 hb; obtain ⟨hc, hf⟩ := bcell hb))
  all_goals
    refine bodyPost_ret ?_ rfl (head_leaf1 hb)
    simp [results, Try.results69, go_sem, k]

set_option maxRecDepth 100000 in
set_option maxHeartbeats 2000000 in
theorem two_30Eb (d : Int) (s : Int) (dw : wideL d = 8) (d0 : 1 ≤ d) (d1 : d ≤ 8) (sw : wideL s = 0) (xs1 : ¬ s = 1) (xs20 : ¬ s = 20) (w : World) :
    Calls Try.prog 69 #[.int .i64 30, .int .i64 d, .int .i64 s] w (HeadIs w (twoL 30 d s)) := by
  have eq : twoL 30 d s = ([], 0) := by simp [twoL, *, sameL, wb]
  rw [eq]
  clear eq
  obtain ⟨c1, c2, c3, c4⟩ := or_consts
  have nd0 := numL_lo d
  have nd1 := numL_hi d
  have qd1 := or176 _ nd0 nd1
  have qd2 := or184 _ nd0 nd1
  go_enter Try.func69, Try.ntmps69
  go_wp2_with (first
    | (go_at_call 94; refine (wide_any _ _).mono ?_; rintro e w' ⟨rfl, rfl⟩)
    | (go_at_call 96; refine (num_any _ (by omega) (by omega) _).mono ?_; rintro e w' ⟨rfl, rfl⟩)
    | (go_at_call 98; refine (mem_any _ _ (by omega) (by omega) (by omega) (by omega) _).mono ?_; rintro e w' ⟨rfl, rfl⟩)
    | (go_at_call 95; refine (rm_any _ _ (by omega) (by omega) (by omega) (by omega) _).mono ?_; rintro e w' ⟨rfl, rfl⟩)
    | (go_at_call 71; refine (of_any _ _ _ _ _).mono ?_; rintro e w1 ⟨rfl, hb⟩; have k := res2 hb; obtain ⟨hc, hf⟩ := bcell hb))
  all_goals
    refine bodyPost_ret ?_ rfl (head_none (balloc (Below.refl _ _) _))
    simp [results, Try.results69, go_sem]

set_option maxRecDepth 100000 in
set_option maxHeartbeats 2000000 in
theorem two_30Ec (d : Int) (s : Int) (dw : wideL d = 8) (d0 : 1 ≤ d) (d1 : d ≤ 8) (sw : wideL s = 0) (xs1 : ¬ s = 1) (xd1 : ¬ d = 1) (w : World) :
    Calls Try.prog 69 #[.int .i64 30, .int .i64 d, .int .i64 s] w (HeadIs w (twoL 30 d s)) := by
  have eq : twoL 30 d s = ([], 0) := by simp [twoL, *, sameL, wb]
  rw [eq]
  clear eq
  obtain ⟨c1, c2, c3, c4⟩ := or_consts
  have nd0 := numL_lo d
  have nd1 := numL_hi d
  have qd1 := or176 _ nd0 nd1
  have qd2 := or184 _ nd0 nd1
  go_enter Try.func69, Try.ntmps69
  go_wp2_with (first
    | (go_at_call 94; refine (wide_any _ _).mono ?_; rintro e w' ⟨rfl, rfl⟩)
    | (go_at_call 96; refine (num_any _ (by omega) (by omega) _).mono ?_; rintro e w' ⟨rfl, rfl⟩)
    | (go_at_call 98; refine (mem_any _ _ (by omega) (by omega) (by omega) (by omega) _).mono ?_; rintro e w' ⟨rfl, rfl⟩)
    | (go_at_call 95; refine (rm_any _ _ (by omega) (by omega) (by omega) (by omega) _).mono ?_; rintro e w' ⟨rfl, rfl⟩)
    | (go_at_call 71; refine (of_any _ _ _ _ _).mono ?_; rintro e w1 ⟨rfl, hb⟩; have k := res2 hb; obtain ⟨hc, hf⟩ := bcell hb))
  all_goals
    refine bodyPost_ret ?_ rfl (head_none (balloc (Below.refl _ _) _))
    simp [results, Try.results69, go_sem]

set_option maxRecDepth 100000 in
set_option maxHeartbeats 2000000 in
theorem two_31A (d : Int) (s : Int) (dw : wideL d = 8) (d0 : 1 ≤ d) (d1 : d ≤ 8) (sw : wideL s = 8) (s0 : 1 ≤ s) (s1 : s ≤ 8) (xd20 : ¬ d = 20) (w : World) :
    Calls Try.prog 69 #[.int .i64 31, .int .i64 d, .int .i64 s] w (HeadIs w (twoL 31 d s)) := by
  have eq : twoL 31 d s = ([], 0) := by simp [twoL, *, sameL, wb]
  rw [eq]
  clear eq
  obtain ⟨c1, c2, c3, c4⟩ := or_consts
  have nd0 := numL_lo d
  have nd1 := numL_hi d
  have qd1 := or176 _ nd0 nd1
  have qd2 := or184 _ nd0 nd1
  have ns0 := numL_lo s
  have ns1 := numL_hi s
  have qs1 := or176 _ ns0 ns1
  have qs2 := or184 _ ns0 ns1
  go_enter Try.func69, Try.ntmps69
  go_wp2_with (first
    | (go_at_call 94; refine (wide_any _ _).mono ?_; rintro e w' ⟨rfl, rfl⟩)
    | (go_at_call 96; refine (num_any _ (by omega) (by omega) _).mono ?_; rintro e w' ⟨rfl, rfl⟩)
    | (go_at_call 98; refine (mem_any _ _ (by omega) (by omega) (by omega) (by omega) _).mono ?_; rintro e w' ⟨rfl, rfl⟩)
    | (go_at_call 95; refine (rm_any _ _ (by omega) (by omega) (by omega) (by omega) _).mono ?_; rintro e w' ⟨rfl, rfl⟩)
    | (go_at_call 71; refine (of_any _ _ _ _ _).mono ?_; rintro e w1 ⟨rfl, hb⟩; have k := res2 hb; obtain ⟨hc, hf⟩ := bcell hb))
  all_goals
    refine bodyPost_ret ?_ rfl (head_none (balloc (Below.refl _ _) _))
    simp [results, Try.results69, go_sem]

set_option maxRecDepth 100000 in
set_option maxHeartbeats 2000000 in
theorem two_31B (d : Int) (s : Int) (dw : wideL d = 16) (d0 : 9 ≤ d) (d1 : d ≤ 16) (sw : wideL s = 16) (s0 : 9 ≤ s) (s1 : s ≤ 16) (xd20 : ¬ d = 20) (w : World) :
    Calls Try.prog 69 #[.int .i64 31, .int .i64 d, .int .i64 s] w (HeadIs w (twoL 31 d s)) := by
  have eq : twoL 31 d s = ([], 0) := by simp [twoL, *, sameL, wb]
  rw [eq]
  clear eq
  obtain ⟨c1, c2, c3, c4⟩ := or_consts
  have nd0 := numL_lo d
  have nd1 := numL_hi d
  have qd1 := or176 _ nd0 nd1
  have qd2 := or184 _ nd0 nd1
  have ns0 := numL_lo s
  have ns1 := numL_hi s
  have qs1 := or176 _ ns0 ns1
  have qs2 := or184 _ ns0 ns1
  go_enter Try.func69, Try.ntmps69
  go_wp2_with (first
    | (go_at_call 94; refine (wide_any _ _).mono ?_; rintro e w' ⟨rfl, rfl⟩)
    | (go_at_call 96; refine (num_any _ (by omega) (by omega) _).mono ?_; rintro e w' ⟨rfl, rfl⟩)
    | (go_at_call 98; refine (mem_any _ _ (by omega) (by omega) (by omega) (by omega) _).mono ?_; rintro e w' ⟨rfl, rfl⟩)
    | (go_at_call 95; refine (rm_any _ _ (by omega) (by omega) (by omega) (by omega) _).mono ?_; rintro e w' ⟨rfl, rfl⟩)
    | (go_at_call 71; refine (of_any _ _ _ _ _).mono ?_; rintro e w1 ⟨rfl, hb⟩; have k := res2 hb; obtain ⟨hc, hf⟩ := bcell hb))
  all_goals
    refine bodyPost_ret ?_ rfl (head_none (balloc (Below.refl _ _) _))
    simp [results, Try.results69, go_sem]

set_option maxRecDepth 100000 in
set_option maxHeartbeats 2000000 in
theorem two_31C (d : Int) (s : Int) (dw : wideL d = 8) (d0 : 1 ≤ d) (d1 : d ≤ 8) (sw : wideL s = 16) (s0 : 9 ≤ s) (s1 : s ≤ 16) (xs17 : ¬ s = 17) (xs20 : ¬ s = 20) (xd20 : ¬ d = 20) (w : World) :
    Calls Try.prog 69 #[.int .i64 31, .int .i64 d, .int .i64 s] w (HeadIs w (twoL 31 d s)) := by
  have eq : twoL 31 d s = ([], 0) := by simp [twoL, *, sameL, wb]
  rw [eq]
  clear eq
  obtain ⟨c1, c2, c3, c4⟩ := or_consts
  have nd0 := numL_lo d
  have nd1 := numL_hi d
  have qd1 := or176 _ nd0 nd1
  have qd2 := or184 _ nd0 nd1
  go_enter Try.func69, Try.ntmps69
  go_wp2_with (first
    | (go_at_call 94; refine (wide_any _ _).mono ?_; rintro e w' ⟨rfl, rfl⟩)
    | (go_at_call 96; refine (num_any _ (by omega) (by omega) _).mono ?_; rintro e w' ⟨rfl, rfl⟩)
    | (go_at_call 98; refine (mem_any _ _ (by omega) (by omega) (by omega) (by omega) _).mono ?_; rintro e w' ⟨rfl, rfl⟩)
    | (go_at_call 95; refine (rm_any _ _ (by omega) (by omega) (by omega) (by omega) _).mono ?_; rintro e w' ⟨rfl, rfl⟩)
    | (go_at_call 71; refine (of_any _ _ _ _ _).mono ?_; rintro e w1 ⟨rfl, hb⟩; have k := res2 hb; obtain ⟨hc, hf⟩ := bcell hb))
  all_goals
    refine bodyPost_ret ?_ rfl (head_none (balloc (Below.refl _ _) _))
    simp [results, Try.results69, go_sem]

set_option maxRecDepth 100000 in
set_option maxHeartbeats 2000000 in
theorem two_31D (d : Int) (s : Int) (dw : wideL d = 16) (d0 : 9 ≤ d) (d1 : d ≤ 16) (sw : wideL s = 8) (s0 : 1 ≤ s) (s1 : s ≤ 8) (xd1 : ¬ d = 1) (xd20 : ¬ d = 20) (w : World) :
    Calls Try.prog 69 #[.int .i64 31, .int .i64 d, .int .i64 s] w (HeadIs w (twoL 31 d s)) := by
  have eq : twoL 31 d s = ([], 0) := by simp [twoL, *, sameL, wb]
  rw [eq]
  clear eq
  obtain ⟨c1, c2, c3, c4⟩ := or_consts
  have nd0 := numL_lo d
  have nd1 := numL_hi d
  have qd1 := or176 _ nd0 nd1
  have qd2 := or184 _ nd0 nd1
  go_enter Try.func69, Try.ntmps69
  go_wp2_with (first
    | (go_at_call 94; refine (wide_any _ _).mono ?_; rintro e w' ⟨rfl, rfl⟩)
    | (go_at_call 96; refine (num_any _ (by omega) (by omega) _).mono ?_; rintro e w' ⟨rfl, rfl⟩)
    | (go_at_call 98; refine (mem_any _ _ (by omega) (by omega) (by omega) (by omega) _).mono ?_; rintro e w' ⟨rfl, rfl⟩)
    | (go_at_call 95; refine (rm_any _ _ (by omega) (by omega) (by omega) (by omega) _).mono ?_; rintro e w' ⟨rfl, rfl⟩)
    | (go_at_call 71; refine (of_any _ _ _ _ _).mono ?_; rintro e w1 ⟨rfl, hb⟩; have k := res2 hb; obtain ⟨hc, hf⟩ := bcell hb))
  all_goals
    refine bodyPost_ret ?_ rfl (head_none (balloc (Below.refl _ _) _))
    simp [results, Try.results69, go_sem]

set_option maxRecDepth 100000 in
set_option maxHeartbeats 2000000 in
theorem two_31E (d : Int) (s : Int) (dw : wideL d = 8) (d0 : 1 ≤ d) (d1 : d ≤ 8) (sw : wideL s = 0) (xs1 : ¬ s = 1) (xd20 : ¬ d = 20) (w : World) :
    Calls Try.prog 69 #[.int .i64 31, .int .i64 d, .int .i64 s] w (HeadIs w (twoL 31 d s)) := by
  have eq : twoL 31 d s = ([], 0) := by simp [twoL, *, sameL, wb]
  rw [eq]
  clear eq
  obtain ⟨c1, c2, c3, c4⟩ := or_consts
  have nd0 := numL_lo d
  have nd1 := numL_hi d
  have qd1 := or176 _ nd0 nd1
  have qd2 := or184 _ nd0 nd1
  go_enter Try.func69, Try.ntmps69
  go_wp2_with (first
    | (go_at_call 94; refine (wide_any _ _).mono ?_; rintro e w' ⟨rfl, rfl⟩)
    | (go_at_call 96; refine (num_any _ (by omega) (by omega) _).mono ?_; rintro e w' ⟨rfl, rfl⟩)
    | (go_at_call 98; refine (mem_any _ _ (by omega) (by omega) (by omega) (by omega) _).mono ?_; rintro e w' ⟨rfl, rfl⟩)
    | (go_at_call 95; refine (rm_any _ _ (by omega) (by omega) (by omega) (by omega) _).mono ?_; rintro e w' ⟨rfl, rfl⟩)
    | (go_at_call 71; refine (of_any _ _ _ _ _).mono ?_; rintro e w1 ⟨rfl, hb⟩; have k := res2 hb; obtain ⟨hc, hf⟩ := bcell hb))
  all_goals
    refine bodyPost_ret ?_ rfl (head_none (balloc (Below.refl _ _) _))
    simp [results, Try.results69, go_sem]

set_option maxRecDepth 100000 in
set_option maxHeartbeats 2000000 in
theorem two_31F (d : Int) (s : Int) (dw : wideL d = 16) (d0 : 9 ≤ d) (d1 : d ≤ 16) (sw : wideL s = 0) (xd1 : ¬ d = 1) (xs1 : ¬ s = 1) (xd20 : ¬ d = 20) (w : World) :
    Calls Try.prog 69 #[.int .i64 31, .int .i64 d, .int .i64 s] w (HeadIs w (twoL 31 d s)) := by
  have eq : twoL 31 d s = ([], 0) := by simp [twoL, *, sameL, wb]
  rw [eq]
  clear eq
  obtain ⟨c1, c2, c3, c4⟩ := or_consts
  have nd0 := numL_lo d
  have nd1 := numL_hi d
  have qd1 := or176 _ nd0 nd1
  have qd2 := or184 _ nd0 nd1
  go_enter Try.func69, Try.ntmps69
  go_wp2_with (first
    | (go_at_call 94; refine (wide_any _ _).mono ?_; rintro e w' ⟨rfl, rfl⟩)
    | (go_at_call 96; refine (num_any _ (by omega) (by omega) _).mono ?_; rintro e w' ⟨rfl, rfl⟩)
    | (go_at_call 98; refine (mem_any _ _ (by omega) (by omega) (by omega) (by omega) _).mono ?_; rintro e w' ⟨rfl, rfl⟩)
    | (go_at_call 95; refine (rm_any _ _ (by omega) (by omega) (by omega) (by omega) _).mono ?_; rintro e w' ⟨rfl, rfl⟩)
    | (go_at_call 71; refine (of_any _ _ _ _ _).mono ?_; rintro e w1 ⟨rfl, hb⟩; have k := res2 hb; obtain ⟨hc, hf⟩ := bcell hb))
  all_goals
    refine bodyPost_ret ?_ rfl (head_none (balloc (Below.refl _ _) _))
    simp [results, Try.results69, go_sem]

set_option maxRecDepth 100000 in
set_option maxHeartbeats 2000000 in
theorem two_31Ga   (w : World) :
    Calls Try.prog 69 #[.int .i64 31, .int .i64 20, .int .i64 1] w (HeadIs w (twoL 31 20 1)) := by
  have eq : twoL 31 20 1 = ([230], 1) := by simp [twoL, *, sameL, wb, show wideL 20 = 0 by decide, show wideL 1 = 8 by decide]
  rw [eq]
  clear eq
  obtain ⟨c1, c2, c3, c4⟩ := or_consts
  have lw20 : wideL 20 = 0 := by decide
  have lw1 : wideL 1 = 8 := by decide
  go_enter Try.func69, Try.ntmps69
  go_wp2_with (first
    | (go_at_call 94; refine (wide_any _ _).mono ?_; rintro e w' ⟨rfl, rfl⟩)
    | (go_at_call 96; refine (num_any _ (by omega) (by omega) _).mono ?_; rintro e w' ⟨rfl, rfl⟩)
    | (go_at_call 98; refine (mem_any _ _ (by omega) (by omega) (by omega) (by omega) _).mono ?_; rintro e w' ⟨rfl, rfl⟩)
    | (go_at_call 95; refine (rm_any _ _ (by omega) (by omega) (by omega) (by omega) _).mono ?_; rintro e w' ⟨rfl, rfl⟩)
    | (go_at_call 71; refine (of_any _ _ _ _ _).mono ?_; rintro e w1 ⟨rfl, hb⟩; have k := res2 hb; obtain ⟨hc, hf⟩ := bcell hb))
  all_goals
    refine bodyPost_ret ?_ rfl (head_leaf1 hb)
    simp [results, Try.results69, go_sem, k]

set_option maxRecDepth 100000 in
set_option maxHeartbeats 2000000 in
theorem two_31Gb (d : Int) (s : Int) (dw : wideL d = 0) (xd1 : ¬ d = 1) (xs1 : ¬ s = 1) (w : World) :
    Calls Try.prog 69 #[.int .i64 31, .int .i64 d, .int .i64 s] w (HeadIs w (twoL 31 d s)) := by
  have eq : twoL 31 d s = ([], 0) := by simp [twoL, *, sameL, wb]
  rw [eq]
  clear eq
  obtain ⟨c1, c2, c3, c4⟩ := or_consts
  go_enter Try.func69, Try.ntmps69
  go_wp2_with (first
    | (go_at_call 94; refine (wide_any _ _).mono ?_; rintro e w' ⟨rfl, rfl⟩)
    | (go_at_call 96; refine (num_any _ (by omega) (by omega) _).mono ?_; rintro e w' ⟨rfl, rfl⟩)
    | (go_at_call 98; refine (mem_any _ _ (by omega) (by omega) (by omega) (by omega) _).mono ?_; rintro e w' ⟨rfl, rfl⟩)
    | (go_at_call 95; refine (rm_any _ _ (by omega) (by omega) (by omega) (by omega) _).mono ?_; rintro e w' ⟨rfl, rfl⟩)
    | (go_at_call 71; refine (of_any _ _ _ _ _).mono ?_; rintro e w1 ⟨rfl, hb⟩; have k := res2 hb; obtain ⟨hc, hf⟩ := bcell hb))
  all_goals
    refine bodyPost_ret ?_ rfl (head_none (balloc (Below.refl _ _) _))
    simp [results, Try.results69, go_sem]

set_option maxRecDepth 100000 in
set_option maxHeartbeats 2000000 in
theorem two_31Gc (d : Int) (s : Int) (dw : wideL d = 0) (xd1 : ¬ d = 1) (xd20 : ¬ d = 20) (w : World) :
    Calls Try.prog 69 #[.int .i64 31, .int .i64 d, .int .i64 s] w (HeadIs w (twoL 31 d s)) := by
  have eq : twoL 31 d s = ([], 0) := by simp [twoL, *, sameL, wb]
  rw [eq]
  clear eq
  obtain ⟨c1, c2, c3, c4⟩ := or_consts
  go_enter Try.func69, Try.ntmps69
  go_wp2_with (first
    | (go_at_call 94; refine (wide_any _ _).mono ?_; rintro e w' ⟨rfl, rfl⟩)
    | (go_at_call 96; refine (num_any _ (by omega) (by omega) _).mono ?_; rintro e w' ⟨rfl, rfl⟩)
    | (go_at_call 98; refine (mem_any _ _ (by omega) (by omega) (by omega) (by omega) _).mono ?_; rintro e w' ⟨rfl, rfl⟩)
    | (go_at_call 95; refine (rm_any _ _ (by omega) (by omega) (by omega) (by omega) _).mono ?_; rintro e w' ⟨rfl, rfl⟩)
    | (go_at_call 71; refine (of_any _ _ _ _ _).mono ?_; rintro e w1 ⟨rfl, hb⟩; have k := res2 hb; obtain ⟨hc, hf⟩ := bcell hb))
  all_goals
    refine bodyPost_ret ?_ rfl (head_none (balloc (Below.refl _ _) _))
    simp [results, Try.results69, go_sem]

end Go.Proofs.Ytbhkndblolegaaa
