/- The walks of isa86.two, by classes: 2. -/
import Derived.Test.YtbhkndblolegaaaIb
namespace Go.Proofs.Ytbhkndblolegaaa
open Go.RowKit
set_option linter.unusedVariables false
set_option linter.unusedSimpArgs false

set_option maxRecDepth 100000 in
set_option maxHeartbeats 2000000 in
theorem two_2A (op : Int) (d : Int) (s : Int) (p0 : 2 ≤ op) (p1 : op ≤ 9) (dw : wideL d = 8) (d0 : 1 ≤ d) (d1 : d ≤ 8) (sw : wideL s = 8) (s0 : 1 ≤ s) (s1 : s ≤ 8) (w : World) :
    Calls Try.prog 69 #[.int .i64 op, .int .i64 d, .int .i64 s] w (HeadIs w (twoL op d s)) := by
  have eq : twoL op d s = ([(op - 2) * 8, 192 + numL s * 8 + numL d], 0) := by simp [twoL, *, sameL, wb, show (op == 1) = false by simp; omega, show (op == 17) = false by simp; omega, show (op == 30) = false by simp; omega, show (op == 31) = false by simp; omega, show ¬ op < 2 by omega, show ¬ 9 < op by omega]
  rw [eq]
  clear eq
  obtain ⟨c1, c2, c3, c4⟩ := or_consts
  have nd0 := numL_lo d
  have nd1 := numL_hi d
  have qd1 := or176 _ nd0 nd1
  have qd2 := or184 _ nd0 nd1
  have ns0 := numL_lo s
  have ns1 := numL_hi s
  have qs1 := or176 _ ns0 ns1
  have qs2 := or184 _ ns0 ns1
  have kk := andk op p0 p1
  obtain ⟨k0, k1, k2, k4⟩ := ork (op - 2) (by omega) (by omega)
  go_enter Try.func69, Try.ntmps69
  go_wp2_with (first
    | (go_at_call 94; refine (wide_any _ _).mono ?_; rintro e w' ⟨rfl, rfl⟩)
    | (go_at_call 96; refine (num_any _ (by omega) (by omega) _).mono ?_; rintro e w' ⟨rfl, rfl⟩)
    | (go_at_call 98; refine (mem_any _ _ (by omega) (by omega) (by omega) (by omega) _).mono ?_; rintro e w' ⟨rfl, rfl⟩)
    | (go_at_call 95; refine (rm_any _ _ (by omega) (by omega) (by omega) (by omega) _).mono ?_; rintro e w' ⟨rfl, rfl⟩)
    | (go_at_call 71; refine (of_any _ _ _ _ _).mono ?_; rintro e w1 ⟨rfl, hb⟩; have k := res2 hb; obtain ⟨hc, hf⟩ := bcell hb))
  all_goals
    refine bodyPost_ret ?_ rfl (head_leaf2 hb)
    simp [results, Try.results69, go_sem, k]

set_option maxRecDepth 100000 in
set_option maxHeartbeats 2000000 in
theorem two_2B (op : Int) (d : Int) (s : Int) (p0 : 2 ≤ op) (p1 : op ≤ 9) (dw : wideL d = 16) (d0 : 9 ≤ d) (d1 : d ≤ 16) (sw : wideL s = 16) (s0 : 9 ≤ s) (s1 : s ≤ 16) (w : World) :
    Calls Try.prog 69 #[.int .i64 op, .int .i64 d, .int .i64 s] w (HeadIs w (twoL op d s)) := by
  have eq : twoL op d s = ([(op - 2) * 8 + 1, 192 + numL s * 8 + numL d], 0) := by simp [twoL, *, sameL, wb, show (op == 1) = false by simp; omega, show (op == 17) = false by simp; omega, show (op == 30) = false by simp; omega, show (op == 31) = false by simp; omega, show ¬ op < 2 by omega, show ¬ 9 < op by omega]
  rw [eq]
  clear eq
  obtain ⟨c1, c2, c3, c4⟩ := or_consts
  have nd0 := numL_lo d
  have nd1 := numL_hi d
  have qd1 := or176 _ nd0 nd1
  have qd2 := or184 _ nd0 nd1
  have ns0 := numL_lo s
  have ns1 := numL_hi s
  have qs1 := or176 _ ns0 ns1
  have qs2 := or184 _ ns0 ns1
  have kk := andk op p0 p1
  obtain ⟨k0, k1, k2, k4⟩ := ork (op - 2) (by omega) (by omega)
  go_enter Try.func69, Try.ntmps69
  go_wp2_with (first
    | (go_at_call 94; refine (wide_any _ _).mono ?_; rintro e w' ⟨rfl, rfl⟩)
    | (go_at_call 96; refine (num_any _ (by omega) (by omega) _).mono ?_; rintro e w' ⟨rfl, rfl⟩)
    | (go_at_call 98; refine (mem_any _ _ (by omega) (by omega) (by omega) (by omega) _).mono ?_; rintro e w' ⟨rfl, rfl⟩)
    | (go_at_call 95; refine (rm_any _ _ (by omega) (by omega) (by omega) (by omega) _).mono ?_; rintro e w' ⟨rfl, rfl⟩)
    | (go_at_call 71; refine (of_any _ _ _ _ _).mono ?_; rintro e w1 ⟨rfl, hb⟩; have k := res2 hb; obtain ⟨hc, hf⟩ := bcell hb))
  all_goals
    refine bodyPost_ret ?_ rfl (head_leaf2 hb)
    simp [results, Try.results69, go_sem, k]

set_option maxRecDepth 100000 in
set_option maxHeartbeats 2000000 in
theorem two_2C (op : Int) (d : Int) (s : Int) (p0 : 2 ≤ op) (p1 : op ≤ 9) (dw : wideL d = 8) (d0 : 1 ≤ d) (d1 : d ≤ 8) (sw : wideL s = 16) (s0 : 9 ≤ s) (s1 : s ≤ 16) (xs17 : ¬ s = 17) (xs20 : ¬ s = 20) (w : World) :
    Calls Try.prog 69 #[.int .i64 op, .int .i64 d, .int .i64 s] w (HeadIs w (twoL op d s)) := by
  have eq : twoL op d s = ([], 0) := by simp [twoL, *, sameL, wb, show (op == 1) = false by simp; omega, show (op == 17) = false by simp; omega, show (op == 30) = false by simp; omega, show (op == 31) = false by simp; omega, show ¬ op < 2 by omega, show ¬ 9 < op by omega]
  rw [eq]
  clear eq
  obtain ⟨c1, c2, c3, c4⟩ := or_consts
  have nd0 := numL_lo d
  have nd1 := numL_hi d
  have qd1 := or176 _ nd0 nd1
  have qd2 := or184 _ nd0 nd1
  have kk := andk op p0 p1
  obtain ⟨k0, k1, k2, k4⟩ := ork (op - 2) (by omega) (by omega)
  go_enter Try.func69, Try.ntmps69
  go_wp2_with (first
    | (go_at_call 94; refine (wide_any _ _).mono ?_; rintro e w' ⟨rfl, rfl⟩)
    | (go_at_call 96; refine (num_any _ (by omega) (by omega) _).mono ?_; rintro e w' ⟨rfl, rfl⟩)
    | (go_at_call 98; refine (mem_any _ _ (by omega) (by omega) (by omega) (by omega) _).mono ?_; rintro e w' ⟨rfl, rfl⟩)
    | (go_at_call 95; refine (rm_any _ _ (by omega) (by omega) (by omega) (by omega) _).mono ?_; rintro e w' ⟨rfl, rfl⟩)
    | (go_at_call 71; refine (of_any _ _ _ _ _).mono ?_; rintro e w1 ⟨rfl, hb⟩; have k := res2 hb; obtain ⟨hc, hf⟩ := bcell hb))
  all_goals
    refine bodyPost_ret ?_ rfl (head_none (balloc (Below.refl _ _) _))
    simp [results, Try.results69, go_sem]

set_option maxRecDepth 100000 in
set_option maxHeartbeats 2000000 in
theorem two_2D (op : Int) (d : Int) (s : Int) (p0 : 2 ≤ op) (p1 : op ≤ 9) (dw : wideL d = 16) (d0 : 9 ≤ d) (d1 : d ≤ 16) (sw : wideL s = 8) (s0 : 1 ≤ s) (s1 : s ≤ 8) (xd1 : ¬ d = 1) (w : World) :
    Calls Try.prog 69 #[.int .i64 op, .int .i64 d, .int .i64 s] w (HeadIs w (twoL op d s)) := by
  have eq : twoL op d s = ([], 0) := by simp [twoL, *, sameL, wb, show (op == 1) = false by simp; omega, show (op == 17) = false by simp; omega, show (op == 30) = false by simp; omega, show (op == 31) = false by simp; omega, show ¬ op < 2 by omega, show ¬ 9 < op by omega]
  rw [eq]
  clear eq
  obtain ⟨c1, c2, c3, c4⟩ := or_consts
  have nd0 := numL_lo d
  have nd1 := numL_hi d
  have qd1 := or176 _ nd0 nd1
  have qd2 := or184 _ nd0 nd1
  have kk := andk op p0 p1
  obtain ⟨k0, k1, k2, k4⟩ := ork (op - 2) (by omega) (by omega)
  go_enter Try.func69, Try.ntmps69
  go_wp2_with (first
    | (go_at_call 94; refine (wide_any _ _).mono ?_; rintro e w' ⟨rfl, rfl⟩)
    | (go_at_call 96; refine (num_any _ (by omega) (by omega) _).mono ?_; rintro e w' ⟨rfl, rfl⟩)
    | (go_at_call 98; refine (mem_any _ _ (by omega) (by omega) (by omega) (by omega) _).mono ?_; rintro e w' ⟨rfl, rfl⟩)
    | (go_at_call 95; refine (rm_any _ _ (by omega) (by omega) (by omega) (by omega) _).mono ?_; rintro e w' ⟨rfl, rfl⟩)
    | (go_at_call 71; refine (of_any _ _ _ _ _).mono ?_; rintro e w1 ⟨rfl, hb⟩; have k := res2 hb; obtain ⟨hc, hf⟩ := bcell hb))
  all_goals
    refine bodyPost_ret ?_ rfl (head_none (balloc (Below.refl _ _) _))
    simp [results, Try.results69, go_sem]

set_option maxRecDepth 100000 in
set_option maxHeartbeats 2000000 in
theorem two_2F (op : Int) (d : Int) (s : Int) (p0 : 2 ≤ op) (p1 : op ≤ 9) (dw : wideL d = 16) (d0 : 9 ≤ d) (d1 : d ≤ 16) (sw : wideL s = 0) (xd1 : ¬ d = 1) (xs1 : ¬ s = 1) (w : World) :
    Calls Try.prog 69 #[.int .i64 op, .int .i64 d, .int .i64 s] w (HeadIs w (twoL op d s)) := by
  have eq : twoL op d s = ([], 0) := by simp [twoL, *, sameL, wb, show (op == 1) = false by simp; omega, show (op == 17) = false by simp; omega, show (op == 30) = false by simp; omega, show (op == 31) = false by simp; omega, show ¬ op < 2 by omega, show ¬ 9 < op by omega]
  rw [eq]
  clear eq
  obtain ⟨c1, c2, c3, c4⟩ := or_consts
  have nd0 := numL_lo d
  have nd1 := numL_hi d
  have qd1 := or176 _ nd0 nd1
  have qd2 := or184 _ nd0 nd1
  have kk := andk op p0 p1
  obtain ⟨k0, k1, k2, k4⟩ := ork (op - 2) (by omega) (by omega)
  go_enter Try.func69, Try.ntmps69
  go_wp2_with (first
    | (go_at_call 94; refine (wide_any _ _).mono ?_; rintro e w' ⟨rfl, rfl⟩)
    | (go_at_call 96; refine (num_any _ (by omega) (by omega) _).mono ?_; rintro e w' ⟨rfl, rfl⟩)
    | (go_at_call 98; refine (mem_any _ _ (by omega) (by omega) (by omega) (by omega) _).mono ?_; rintro e w' ⟨rfl, rfl⟩)
    | (go_at_call 95; refine (rm_any _ _ (by omega) (by omega) (by omega) (by omega) _).mono ?_; rintro e w' ⟨rfl, rfl⟩)
    | (go_at_call 71; refine (of_any _ _ _ _ _).mono ?_; rintro e w1 ⟨rfl, hb⟩; have k := res2 hb; obtain ⟨hc, hf⟩ := bcell hb))
  all_goals
    refine bodyPost_ret ?_ rfl (head_none (balloc (Below.refl _ _) _))
    simp [results, Try.results69, go_sem]

set_option maxRecDepth 100000 in
set_option maxHeartbeats 2000000 in
theorem two_2G (op : Int) (d : Int) (s : Int) (p0 : 2 ≤ op) (p1 : op ≤ 9) (dw : wideL d = 0) (xd1 : ¬ d = 1) (w : World) :
    Calls Try.prog 69 #[.int .i64 op, .int .i64 d, .int .i64 s] w (HeadIs w (twoL op d s)) := by
  have eq : twoL op d s = ([], 0) := by simp [twoL, *, sameL, wb, show (op == 1) = false by simp; omega, show (op == 17) = false by simp; omega, show (op == 30) = false by simp; omega, show (op == 31) = false by simp; omega, show ¬ op < 2 by omega, show ¬ 9 < op by omega]
  rw [eq]
  clear eq
  obtain ⟨c1, c2, c3, c4⟩ := or_consts
  have kk := andk op p0 p1
  obtain ⟨k0, k1, k2, k4⟩ := ork (op - 2) (by omega) (by omega)
  go_enter Try.func69, Try.ntmps69
  go_wp2_with (first
    | (go_at_call 94; refine (wide_any _ _).mono ?_; rintro e w' ⟨rfl, rfl⟩)
    | (go_at_call 96; refine (num_any _ (by omega) (by omega) _).mono ?_; rintro e w' ⟨rfl, rfl⟩)
    | (go_at_call 98; refine (mem_any _ _ (by omega) (by omega) (by omega) (by omega) _).mono ?_; rintro e w' ⟨rfl, rfl⟩)
    | (go_at_call 95; refine (rm_any _ _ (by omega) (by omega) (by omega) (by omega) _).mono ?_; rintro e w' ⟨rfl, rfl⟩)
    | (go_at_call 71; refine (of_any _ _ _ _ _).mono ?_; rintro e w1 ⟨rfl, hb⟩; have k := res2 hb; obtain ⟨hc, hf⟩ := bcell hb))
  all_goals
    refine bodyPost_ret ?_ rfl (head_none (balloc (Below.refl _ _) _))
    simp [results, Try.results69, go_sem]

set_option maxRecDepth 100000 in
set_option maxHeartbeats 2000000 in
theorem two_2E17 (op : Int) (d : Int)  (p0 : 2 ≤ op) (p1 : op ≤ 9) (dw : wideL d = 8) (d0 : 1 ≤ d) (d1 : d ≤ 8) (w : World) :
    Calls Try.prog 69 #[.int .i64 op, .int .i64 d, .int .i64 17] w (HeadIs w (twoL op d 17)) := by
  have eq : twoL op d 17 = ([(op - 2) * 8 + 2, numL d * 8 + 7], 0) := by simp [twoL, *, sameL, wb, show wideL 17 = 0 by decide, show (op == 1) = false by simp; omega, show (op == 17) = false by simp; omega, show (op == 30) = false by simp; omega, show (op == 31) = false by simp; omega, show ¬ op < 2 by omega, show ¬ 9 < op by omega]
  rw [eq]
  clear eq
  obtain ⟨c1, c2, c3, c4⟩ := or_consts
  have nd0 := numL_lo d
  have nd1 := numL_hi d
  have qd1 := or176 _ nd0 nd1
  have qd2 := or184 _ nd0 nd1
  have kk := andk op p0 p1
  obtain ⟨k0, k1, k2, k4⟩ := ork (op - 2) (by omega) (by omega)
  have lw17 : wideL 17 = 0 := by decide
  go_enter Try.func69, Try.ntmps69
  go_wp2_with (first
    | (go_at_call 94; refine (wide_any _ _).mono ?_; rintro e w' ⟨rfl, rfl⟩)
    | (go_at_call 96; refine (num_any _ (by omega) (by omega) _).mono ?_; rintro e w' ⟨rfl, rfl⟩)
    | (go_at_call 98; refine (mem_any _ _ (by omega) (by omega) (by omega) (by omega) _).mono ?_; rintro e w' ⟨rfl, rfl⟩)
    | (go_at_call 95; refine (rm_any _ _ (by omega) (by omega) (by omega) (by omega) _).mono ?_; rintro e w' ⟨rfl, rfl⟩)
    | (go_at_call 71; refine (of_any _ _ _ _ _).mono ?_; rintro e w1 ⟨rfl, hb⟩; have k := res2 hb; obtain ⟨hc, hf⟩ := bcell hb))
  all_goals
    refine bodyPost_ret ?_ rfl (head_leaf2 hb)
    simp [results, Try.results69, go_sem, k]

set_option maxRecDepth 100000 in
set_option maxHeartbeats 2000000 in
theorem two_2E20a (op : Int)  (p0 : 2 ≤ op) (p1 : op ≤ 9) (w : World) :
    Calls Try.prog 69 #[.int .i64 op, .int .i64 1, .int .i64 20] w (HeadIs w (twoL op 1 20)) := by
  have eq : twoL op 1 20 = ([(op - 2) * 8 + 4], 1) := by simp [twoL, *, sameL, wb, show wideL 1 = 8 by decide, show wideL 20 = 0 by decide, show (op == 1) = false by simp; omega, show (op == 17) = false by simp; omega, show (op == 30) = false by simp; omega, show (op == 31) = false by simp; omega, show ¬ op < 2 by omega, show ¬ 9 < op by omega]
  rw [eq]
  clear eq
  obtain ⟨c1, c2, c3, c4⟩ := or_consts
  have kk := andk op p0 p1
  obtain ⟨k0, k1, k2, k4⟩ := ork (op - 2) (by omega) (by omega)
  have lw1 : wideL 1 = 8 := by decide
  have lw20 : wideL 20 = 0 := by decide
  go_enter Try.func69, Try.ntmps69
  go_wp2_with (first
    | (go_at_call 94; refine (wide_any _ _).mono ?_; rintro e w' ⟨rfl, rfl⟩)
    | (go_at_call 96; refine (num_any _ (by omega) (by omega) _).mono ?_; rintro e w' ⟨rfl, rfl⟩)
    | (go_at_call 98; refine (mem_any _ _ (by omega) (by omega) (by omega) (by omega) _).mono ?_; rintro e w' ⟨rfl, rfl⟩)
    | (go_at_call 95; refine (rm_any _ _ (by omega) (by omega) (by omega) (by omega) _).mono ?_; rintro e w' ⟨rfl, rfl⟩)
    | (go_at_call 71; refine (of_any _ _ _ _ _).mono ?_; rintro e w1 ⟨rfl, hb⟩; have k := res2 hb; obtain ⟨hc, hf⟩ := bcell hb))
  all_goals
    refine bodyPost_ret ?_ rfl (head_leaf1 hb)
    simp [results, Try.results69, go_sem, k]

set_option maxRecDepth 100000 in
set_option maxHeartbeats 2000000 in
theorem two_2E20b (op : Int) (d : Int)  (p0 : 2 ≤ op) (p1 : op ≤ 9) (dw : wideL d = 8) (d0 : 1 ≤ d) (d1 : d ≤ 8) (xd1 : ¬ d = 1) (w : World) :
    Calls Try.prog 69 #[.int .i64 op, .int .i64 d, .int .i64 20] w (HeadIs w (twoL op d 20)) := by
  have eq : twoL op d 20 = ([128, 192 + (op - 2) * 8 + numL d], 1) := by simp [twoL, *, sameL, wb, show wideL 20 = 0 by decide, show (op == 1) = false by simp; omega, show (op == 17) = false by simp; omega, show (op == 30) = false by simp; omega, show (op == 31) = false by simp; omega, show ¬ op < 2 by omega, show ¬ 9 < op by omega]
  rw [eq]
  clear eq
  obtain ⟨c1, c2, c3, c4⟩ := or_consts
  have nd0 := numL_lo d
  have nd1 := numL_hi d
  have qd1 := or176 _ nd0 nd1
  have qd2 := or184 _ nd0 nd1
  have kk := andk op p0 p1
  obtain ⟨k0, k1, k2, k4⟩ := ork (op - 2) (by omega) (by omega)
  have lw20 : wideL 20 = 0 := by decide
  go_enter Try.func69, Try.ntmps69
  go_wp2_with (first
    | (go_at_call 94; refine (wide_any _ _).mono ?_; rintro e w' ⟨rfl, rfl⟩)
    | (go_at_call 96; refine (num_any _ (by omega) (by omega) _).mono ?_; rintro e w' ⟨rfl, rfl⟩)
    | (go_at_call 98; refine (mem_any _ _ (by omega) (by omega) (by omega) (by omega) _).mono ?_; rintro e w' ⟨rfl, rfl⟩)
    | (go_at_call 95; refine (rm_any _ _ (by omega) (by omega) (by omega) (by omega) _).mono ?_; rintro e w' ⟨rfl, rfl⟩)
    | (go_at_call 71; refine (of_any _ _ _ _ _).mono ?_; rintro e w1 ⟨rfl, hb⟩; have k := res2 hb; obtain ⟨hc, hf⟩ := bcell hb))
  all_goals
    refine bodyPost_ret ?_ rfl (head_leaf2 hb)
    simp [results, Try.results69, go_sem, k]

set_option maxRecDepth 100000 in
set_option maxHeartbeats 2000000 in
theorem two_2E (op : Int) (d : Int) (s : Int) (p0 : 2 ≤ op) (p1 : op ≤ 9) (dw : wideL d = 8) (d0 : 1 ≤ d) (d1 : d ≤ 8) (sw : wideL s = 0) (xs1 : ¬ s = 1) (xs17 : ¬ s = 17) (xs20 : ¬ s = 20) (w : World) :
    Calls Try.prog 69 #[.int .i64 op, .int .i64 d, .int .i64 s] w (HeadIs w (twoL op d s)) := by
  have eq : twoL op d s = ([], 0) := by simp [twoL, *, sameL, wb, show (op == 1) = false by simp; omega, show (op == 17) = false by simp; omega, show (op == 30) = false by simp; omega, show (op == 31) = false by simp; omega, show ¬ op < 2 by omega, show ¬ 9 < op by omega]
  rw [eq]
  clear eq
  obtain ⟨c1, c2, c3, c4⟩ := or_consts
  have nd0 := numL_lo d
  have nd1 := numL_hi d
  have qd1 := or176 _ nd0 nd1
  have qd2 := or184 _ nd0 nd1
  have kk := andk op p0 p1
  obtain ⟨k0, k1, k2, k4⟩ := ork (op - 2) (by omega) (by omega)
  go_enter Try.func69, Try.ntmps69
  go_wp2_with (first
    | (go_at_call 94; refine (wide_any _ _).mono ?_; rintro e w' ⟨rfl, rfl⟩)
    | (go_at_call 96; refine (num_any _ (by omega) (by omega) _).mono ?_; rintro e w' ⟨rfl, rfl⟩)
    | (go_at_call 98; refine (mem_any _ _ (by omega) (by omega) (by omega) (by omega) _).mono ?_; rintro e w' ⟨rfl, rfl⟩)
    | (go_at_call 95; refine (rm_any _ _ (by omega) (by omega) (by omega) (by omega) _).mono ?_; rintro e w' ⟨rfl, rfl⟩)
    | (go_at_call 71; refine (of_any _ _ _ _ _).mono ?_; rintro e w1 ⟨rfl, hb⟩; have k := res2 hb; obtain ⟨hc, hf⟩ := bcell hb))
  all_goals
    refine bodyPost_ret ?_ rfl (head_none (balloc (Below.refl _ _) _))
    simp [results, Try.results69, go_sem]

end Go.Proofs.Ytbhkndblolegaaa
