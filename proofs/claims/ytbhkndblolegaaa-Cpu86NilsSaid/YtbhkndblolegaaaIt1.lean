/- The walks of isa86.two, by classes: 1. -/
import Derived.Test.YtbhkndblolegaaaIp
namespace Go.Proofs.Ytbhkndblolegaaa
open Go.RowKit
set_option linter.unusedVariables false
set_option linter.unusedSimpArgs false

set_option maxRecDepth 100000 in
set_option maxHeartbeats 2000000 in
theorem two_1A (d : Int) (s : Int) (dw : wideL d = 8) (d0 : 1 ≤ d) (d1 : d ≤ 8) (sw : wideL s = 8) (s0 : 1 ≤ s) (s1 : s ≤ 8) (w : World) :
    Calls Try.prog 69 #[.int .i64 1, .int .i64 d, .int .i64 s] w (HeadIs w (twoL 1 d s)) := by
  have eq : twoL 1 d s = ([136, 192 + numL s * 8 + numL d], 0) := by simp [twoL, *, sameL, wb]
  rw [eq]
  clear eq
  obtain ⟨c1, c2, c3, c4⟩ := or_consts
  have nd0 := numL_lo d
  have nd1 := numL_hi d
  have qd1 := or176 _ nd0 nd1
  have qd2 := or184 _ nd0 nd1
  have ns0 := numL_lo s
  have ns1 := numL_hi s
  have qs1 := or176 _ ns0 ns1
  have qs2 := or184 _ ns0 ns1
  go_enter Try.func69, Try.ntmps69
  go_wp2_with (first
    | (go_at_call 94; refine (wide_any _ _).mono ?_; rintro e w' ⟨rfl, rfl⟩)
    | (go_at_call 96; refine (num_any _ (by omega) (by omega) _).mono ?_; rintro e w' ⟨rfl, rfl⟩)
    | (go_at_call 98; refine (mem_any _ _ (by omega) (by omega) (by omega) (by omega) _).mono ?_; rintro e w' ⟨rfl, rfl⟩)
    | (go_at_call 95; refine (rm_any _ _ (by omega) (by omega) (by omega) (by omega) _).mono ?_; rintro e w' ⟨rfl, rfl⟩)
    | (go_at_call 71; refine (of_any _ _ _ _ _).mono ?_; rintro e w1 ⟨rfl, hb⟩; have k := res2 hb; obtain ⟨hc, hf⟩ := bcell hb))
  all_goals
    refine bodyPost_ret ?_ rfl (head_leaf2 hb)
    simp [results, Try.results69, go_sem, k]

set_option maxRecDepth 100000 in
set_option maxHeartbeats 2000000 in
theorem two_0A (op : Int) (d : Int) (s : Int) (p0 : op ≤ 0) (dw : wideL d = 8) (d0 : 1 ≤ d) (d1 : d ≤ 8) (sw : wideL s = 8) (s0 : 1 ≤ s) (s1 : s ≤ 8) (w : World) :
    Calls Try.prog 69 #[.int .i64 op, .int .i64 d, .int .i64 s] w (HeadIs w (twoL op d s)) := by
  have eq : twoL op d s = ([], 0) := by simp [twoL, *, sameL, wb, show (op == 1) = false by simp; omega, show (op == 17) = false by simp; omega, show (op == 30) = false by simp; omega, show (op == 31) = false by simp; omega, show op < 2 by omega]
  rw [eq]
  clear eq
  obtain ⟨c1, c2, c3, c4⟩ := or_consts
  have nd0 := numL_lo d
  have nd1 := numL_hi d
  have qd1 := or176 _ nd0 nd1
  have qd2 := or184 _ nd0 nd1
  have ns0 := numL_lo s
  have ns1 := numL_hi s
  have qs1 := or176 _ ns0 ns1
  have qs2 := or184 _ ns0 ns1
  go_enter Try.func69, Try.ntmps69
  go_wp2_with (first
    | (go_at_call 94; refine (wide_any _ _).mono ?_; rintro e w' ⟨rfl, rfl⟩)
    | (go_at_call 96; refine (num_any _ (by omega) (by omega) _).mono ?_; rintro e w' ⟨rfl, rfl⟩)
    | (go_at_call 98; refine (mem_any _ _ (by omega) (by omega) (by omega) (by omega) _).mono ?_; rintro e w' ⟨rfl, rfl⟩)
    | (go_at_call 95; refine (rm_any _ _ (by omega) (by omega) (by omega) (by omega) _).mono ?_; rintro e w' ⟨rfl, rfl⟩)
    | (go_at_call 71; refine (of_any _ _ _ _ _).mono ?_; rintro e w1 ⟨rfl, hb⟩; have k := res2 hb; obtain ⟨hc, hf⟩ := bcell hb))
  all_goals
    refine bodyPost_ret ?_ rfl (head_none (balloc (Below.refl _ _) _))
    simp [results, Try.results69, go_sem]

set_option maxRecDepth 100000 in
set_option maxHeartbeats 2000000 in
theorem two_1B (d : Int) (s : Int) (dw : wideL d = 16) (d0 : 9 ≤ d) (d1 : d ≤ 16) (sw : wideL s = 16) (s0 : 9 ≤ s) (s1 : s ≤ 16) (w : World) :
    Calls Try.prog 69 #[.int .i64 1, .int .i64 d, .int .i64 s] w (HeadIs w (twoL 1 d s)) := by
  have eq : twoL 1 d s = ([137, 192 + numL s * 8 + numL d], 0) := by simp [twoL, *, sameL, wb]
  rw [eq]
  clear eq
  obtain ⟨c1, c2, c3, c4⟩ := or_consts
  have nd0 := numL_lo d
  have nd1 := numL_hi d
  have qd1 := or176 _ nd0 nd1
  have qd2 := or184 _ nd0 nd1
  have ns0 := numL_lo s
  have ns1 := numL_hi s
  have qs1 := or176 _ ns0 ns1
  have qs2 := or184 _ ns0 ns1
  go_enter Try.func69, Try.ntmps69
  go_wp2_with (first
    | (go_at_call 94; refine (wide_any _ _).mono ?_; rintro e w' ⟨rfl, rfl⟩)
    | (go_at_call 96; refine (num_any _ (by omega) (by omega) _).mono ?_; rintro e w' ⟨rfl, rfl⟩)
    | (go_at_call 98; refine (mem_any _ _ (by omega) (by omega) (by omega) (by omega) _).mono ?_; rintro e w' ⟨rfl, rfl⟩)
    | (go_at_call 95; refine (rm_any _ _ (by omega) (by omega) (by omega) (by omega) _).mono ?_; rintro e w' ⟨rfl, rfl⟩)
    | (go_at_call 71; refine (of_any _ _ _ _ _).mono ?_; rintro e w1 ⟨rfl, hb⟩; have k := res2 hb; obtain ⟨hc, hf⟩ := bcell hb))
  all_goals
    refine bodyPost_ret ?_ rfl (head_leaf2 hb)
    simp [results, Try.results69, go_sem, k]

set_option maxRecDepth 100000 in
set_option maxHeartbeats 2000000 in
theorem two_0B (op : Int) (d : Int) (s : Int) (p0 : op ≤ 0) (dw : wideL d = 16) (d0 : 9 ≤ d) (d1 : d ≤ 16) (sw : wideL s = 16) (s0 : 9 ≤ s) (s1 : s ≤ 16) (w : World) :
    Calls Try.prog 69 #[.int .i64 op, .int .i64 d, .int .i64 s] w (HeadIs w (twoL op d s)) := by
  have eq : twoL op d s = ([], 0) := by simp [twoL, *, sameL, wb, show (op == 1) = false by simp; omega, show (op == 17) = false by simp; omega, show (op == 30) = false by simp; omega, show (op == 31) = false by simp; omega, show op < 2 by omega]
  rw [eq]
  clear eq
  obtain ⟨c1, c2, c3, c4⟩ := or_consts
  have nd0 := numL_lo d
  have nd1 := numL_hi d
  have qd1 := or176 _ nd0 nd1
  have qd2 := or184 _ nd0 nd1
  have ns0 := numL_lo s
  have ns1 := numL_hi s
  have qs1 := or176 _ ns0 ns1
  have qs2 := or184 _ ns0 ns1
  go_enter Try.func69, Try.ntmps69
  go_wp2_with (first
    | (go_at_call 94; refine (wide_any _ _).mono ?_; rintro e w' ⟨rfl, rfl⟩)
    | (go_at_call 96; refine (num_any _ (by omega) (by omega) _).mono ?_; rintro e w' ⟨rfl, rfl⟩)
    | (go_at_call 98; refine (mem_any _ _ (by omega) (by omega) (by omega) (by omega) _).mono ?_; rintro e w' ⟨rfl, rfl⟩)
    | (go_at_call 95; refine (rm_any _ _ (by omega) (by omega) (by omega) (by omega) _).mono ?_; rintro e w' ⟨rfl, rfl⟩)
    | (go_at_call 71; refine (of_any _ _ _ _ _).mono ?_; rintro e w1 ⟨rfl, hb⟩; have k := res2 hb; obtain ⟨hc, hf⟩ := bcell hb))
  all_goals
    refine bodyPost_ret ?_ rfl (head_none (balloc (Below.refl _ _) _))
    simp [results, Try.results69, go_sem]

set_option maxRecDepth 100000 in
set_option maxHeartbeats 2000000 in
theorem two_1C (d : Int) (s : Int) (dw : wideL d = 8) (d0 : 1 ≤ d) (d1 : d ≤ 8) (sw : wideL s = 16) (s0 : 9 ≤ s) (s1 : s ≤ 16) (xs17 : ¬ s = 17) (xs20 : ¬ s = 20) (w : World) :
    Calls Try.prog 69 #[.int .i64 1, .int .i64 d, .int .i64 s] w (HeadIs w (twoL 1 d s)) := by
  have eq : twoL 1 d s = placesL d s := by simp [twoL, *, sameL, wb]
  rw [eq]
  clear eq
  obtain ⟨c1, c2, c3, c4⟩ := or_consts
  have nd0 := numL_lo d
  have nd1 := numL_hi d
  have qd1 := or176 _ nd0 nd1
  have qd2 := or184 _ nd0 nd1
  go_enter Try.func69, Try.ntmps69
  go_wp2_with (first
    | (go_at_call 94; refine (wide_any _ _).mono ?_; rintro e w' ⟨rfl, rfl⟩)
    | (go_at_call 96; refine (num_any _ (by omega) (by omega) _).mono ?_; rintro e w' ⟨rfl, rfl⟩)
    | (go_at_call 98; refine (mem_any _ _ (by omega) (by omega) (by omega) (by omega) _).mono ?_; rintro e w' ⟨rfl, rfl⟩)
    | (go_at_call 95; refine (rm_any _ _ (by omega) (by omega) (by omega) (by omega) _).mono ?_; rintro e w' ⟨rfl, rfl⟩)
    | (go_at_call 71; refine (of_any _ _ _ _ _).mono ?_; rintro e w1 ⟨rfl, hb⟩; have k := res2 hb; obtain ⟨hc, hf⟩ := bcell hb)
    | (go_at_call 97; refine (places_any d s _).mono ?_; rintro e w1 ⟨sl, rfl, hsl, hb⟩; have k := res1 hb; obtain ⟨hc, hf⟩ := bcell hb; rcases hsl with ⟨he, rfl⟩ | ⟨he, g, hg, rfl, ho⟩))
  · refine bodyPost_ret ?_ rfl (head_again (.inl ⟨he, rfl⟩) hb)
    simp [results, Try.results69, go_sem, k]
  · refine bodyPost_ret ?_ rfl (head_again (.inr ⟨he, g, hg, rfl, ho⟩) hb)
    simp [results, Try.results69, go_sem, k]

set_option maxRecDepth 100000 in
set_option maxHeartbeats 2000000 in
theorem two_0C (op : Int) (d : Int) (s : Int) (p0 : op ≤ 0) (dw : wideL d = 8) (d0 : 1 ≤ d) (d1 : d ≤ 8) (sw : wideL s = 16) (s0 : 9 ≤ s) (s1 : s ≤ 16) (xs17 : ¬ s = 17) (xs20 : ¬ s = 20) (w : World) :
    Calls Try.prog 69 #[.int .i64 op, .int .i64 d, .int .i64 s] w (HeadIs w (twoL op d s)) := by
  have eq : twoL op d s = ([], 0) := by simp [twoL, *, sameL, wb, show (op == 1) = false by simp; omega, show (op == 17) = false by simp; omega, show (op == 30) = false by simp; omega, show (op == 31) = false by simp; omega, show op < 2 by omega]
  rw [eq]
  clear eq
  obtain ⟨c1, c2, c3, c4⟩ := or_consts
  have nd0 := numL_lo d
  have nd1 := numL_hi d
  have qd1 := or176 _ nd0 nd1
  have qd2 := or184 _ nd0 nd1
  go_enter Try.func69, Try.ntmps69
  go_wp2_with (first
    | (go_at_call 94; refine (wide_any _ _).mono ?_; rintro e w' ⟨rfl, rfl⟩)
    | (go_at_call 96; refine (num_any _ (by omega) (by omega) _).mono ?_; rintro e w' ⟨rfl, rfl⟩)
    | (go_at_call 98; refine (mem_any _ _ (by omega) (by omega) (by omega) (by omega) _).mono ?_; rintro e w' ⟨rfl, rfl⟩)
    | (go_at_call 95; refine (rm_any _ _ (by omega) (by omega) (by omega) (by omega) _).mono ?_; rintro e w' ⟨rfl, rfl⟩)
    | (go_at_call 71; refine (of_any _ _ _ _ _).mono ?_; rintro e w1 ⟨rfl, hb⟩; have k := res2 hb; obtain ⟨hc, hf⟩ := bcell hb))
  all_goals
    refine bodyPost_ret ?_ rfl (head_none (balloc (Below.refl _ _) _))
    simp [results, Try.results69, go_sem]

set_option maxRecDepth 100000 in
set_option maxHeartbeats 2000000 in
theorem two_1D (d : Int) (s : Int) (dw : wideL d = 16) (d0 : 9 ≤ d) (d1 : d ≤ 16) (sw : wideL s = 8) (s0 : 1 ≤ s) (s1 : s ≤ 8) (xd1 : ¬ d = 1) (w : World) :
    Calls Try.prog 69 #[.int .i64 1, .int .i64 d, .int .i64 s] w (HeadIs w (twoL 1 d s)) := by
  have eq : twoL 1 d s = placesL d s := by simp [twoL, *, sameL, wb]
  rw [eq]
  clear eq
  obtain ⟨c1, c2, c3, c4⟩ := or_consts
  have nd0 := numL_lo d
  have nd1 := numL_hi d
  have qd1 := or176 _ nd0 nd1
  have qd2 := or184 _ nd0 nd1
  go_enter Try.func69, Try.ntmps69
  go_wp2_with (first
    | (go_at_call 94; refine (wide_any _ _).mono ?_; rintro e w' ⟨rfl, rfl⟩)
    | (go_at_call 96; refine (num_any _ (by omega) (by omega) _).mono ?_; rintro e w' ⟨rfl, rfl⟩)
    | (go_at_call 98; refine (mem_any _ _ (by omega) (by omega) (by omega) (by omega) _).mono ?_; rintro e w' ⟨rfl, rfl⟩)
    | (go_at_call 95; refine (rm_any _ _ (by omega) (by omega) (by omega) (by omega) _).mono ?_; rintro e w' ⟨rfl, rfl⟩)
    | (go_at_call 71; refine (of_any _ _ _ _ _).mono ?_; rintro e w1 ⟨rfl, hb⟩; have k := res2 hb; obtain ⟨hc, hf⟩ := bcell hb)
    | (go_at_call 97; refine (places_any d s _).mono ?_; rintro e w1 ⟨sl, rfl, hsl, hb⟩; have k := res1 hb; obtain ⟨hc, hf⟩ := bcell hb; rcases hsl with ⟨he, rfl⟩ | ⟨he, g, hg, rfl, ho⟩))
  · refine bodyPost_ret ?_ rfl (head_again (.inl ⟨he, rfl⟩) hb)
    simp [results, Try.results69, go_sem, k]
  · refine bodyPost_ret ?_ rfl (head_again (.inr ⟨he, g, hg, rfl, ho⟩) hb)
    simp [results, Try.results69, go_sem, k]

set_option maxRecDepth 100000 in
set_option maxHeartbeats 2000000 in
theorem two_0D (op : Int) (d : Int) (s : Int) (p0 : op ≤ 0) (dw : wideL d = 16) (d0 : 9 ≤ d) (d1 : d ≤ 16) (sw : wideL s = 8) (s0 : 1 ≤ s) (s1 : s ≤ 8) (xd1 : ¬ d = 1) (w : World) :
    Calls Try.prog 69 #[.int .i64 op, .int .i64 d, .int .i64 s] w (HeadIs w (twoL op d s)) := by
  have eq : twoL op d s = ([], 0) := by simp [twoL, *, sameL, wb, show (op == 1) = false by simp; omega, show (op == 17) = false by simp; omega, show (op == 30) = false by simp; omega, show (op == 31) = false by simp; omega, show op < 2 by omega]
  rw [eq]
  clear eq
  obtain ⟨c1, c2, c3, c4⟩ := or_consts
  have nd0 := numL_lo d
  have nd1 := numL_hi d
  have qd1 := or176 _ nd0 nd1
  have qd2 := or184 _ nd0 nd1
  go_enter Try.func69, Try.ntmps69
  go_wp2_with (first
    | (go_at_call 94; refine (wide_any _ _).mono ?_; rintro e w' ⟨rfl, rfl⟩)
    | (go_at_call 96; refine (num_any _ (by omega) (by omega) _).mono ?_; rintro e w' ⟨rfl, rfl⟩)
    | (go_at_call 98; refine (mem_any _ _ (by omega) (by omega) (by omega) (by omega) _).mono ?_; rintro e w' ⟨rfl, rfl⟩)
    | (go_at_call 95; refine (rm_any _ _ (by omega) (by omega) (by omega) (by omega) _).mono ?_; rintro e w' ⟨rfl, rfl⟩)
    | (go_at_call 71; refine (of_any _ _ _ _ _).mono ?_; rintro e w1 ⟨rfl, hb⟩; have k := res2 hb; obtain ⟨hc, hf⟩ := bcell hb))
  all_goals
    refine bodyPost_ret ?_ rfl (head_none (balloc (Below.refl _ _) _))
    simp [results, Try.results69, go_sem]

set_option maxRecDepth 100000 in
set_option maxHeartbeats 2000000 in
theorem two_1E (d : Int) (s : Int) (dw : wideL d = 8) (d0 : 1 ≤ d) (d1 : d ≤ 8) (sw : wideL s = 0) (xs1 : ¬ s = 1) (w : World) :
    Calls Try.prog 69 #[.int .i64 1, .int .i64 d, .int .i64 s] w (HeadIs w (twoL 1 d s)) := by
  have eq : twoL 1 d s = placesL d s := by simp [twoL, *, sameL, wb]
  rw [eq]
  clear eq
  obtain ⟨c1, c2, c3, c4⟩ := or_consts
  have nd0 := numL_lo d
  have nd1 := numL_hi d
  have qd1 := or176 _ nd0 nd1
  have qd2 := or184 _ nd0 nd1
  go_enter Try.func69, Try.ntmps69
  go_wp2_with (first
    | (go_at_call 94; refine (wide_any _ _).mono ?_; rintro e w' ⟨rfl, rfl⟩)
    | (go_at_call 96; refine (num_any _ (by omega) (by omega) _).mono ?_; rintro e w' ⟨rfl, rfl⟩)
    | (go_at_call 98; refine (mem_any _ _ (by omega) (by omega) (by omega) (by omega) _).mono ?_; rintro e w' ⟨rfl, rfl⟩)
    | (go_at_call 95; refine (rm_any _ _ (by omega) (by omega) (by omega) (by omega) _).mono ?_; rintro e w' ⟨rfl, rfl⟩)
    | (go_at_call 71; refine (of_any _ _ _ _ _).mono ?_; rintro e w1 ⟨rfl, hb⟩; have k := res2 hb; obtain ⟨hc, hf⟩ := bcell hb)
    | (go_at_call 97; refine (places_any d s _).mono ?_; rintro e w1 ⟨sl, rfl, hsl, hb⟩; have k := res1 hb; obtain ⟨hc, hf⟩ := bcell hb; rcases hsl with ⟨he, rfl⟩ | ⟨he, g, hg, rfl, ho⟩))
  · refine bodyPost_ret ?_ rfl (head_again (.inl ⟨he, rfl⟩) hb)
    simp [results, Try.results69, go_sem, k]
  · refine bodyPost_ret ?_ rfl (head_again (.inr ⟨he, g, hg, rfl, ho⟩) hb)
    simp [results, Try.results69, go_sem, k]

set_option maxRecDepth 100000 in
set_option maxHeartbeats 2000000 in
theorem two_0E (op : Int) (d : Int) (s : Int) (p0 : op ≤ 0) (dw : wideL d = 8) (d0 : 1 ≤ d) (d1 : d ≤ 8) (sw : wideL s = 0) (xs1 : ¬ s = 1) (w : World) :
    Calls Try.prog 69 #[.int .i64 op, .int .i64 d, .int .i64 s] w (HeadIs w (twoL op d s)) := by
  have eq : twoL op d s = ([], 0) := by simp [twoL, *, sameL, wb, show (op == 1) = false by simp; omega, show (op == 17) = false by simp; omega, show (op == 30) = false by simp; omega, show (op == 31) = false by simp; omega, show op < 2 by omega]
  rw [eq]
  clear eq
  obtain ⟨c1, c2, c3, c4⟩ := or_consts
  have nd0 := numL_lo d
  have nd1 := numL_hi d
  have qd1 := or176 _ nd0 nd1
  have qd2 := or184 _ nd0 nd1
  go_enter Try.func69, Try.ntmps69
  go_wp2_with (first
    | (go_at_call 94; refine (wide_any _ _).mono ?_; rintro e w' ⟨rfl, rfl⟩)
    | (go_at_call 96; refine (num_any _ (by omega) (by omega) _).mono ?_; rintro e w' ⟨rfl, rfl⟩)
    | (go_at_call 98; refine (mem_any _ _ (by omega) (by omega) (by omega) (by omega) _).mono ?_; rintro e w' ⟨rfl, rfl⟩)
    | (go_at_call 95; refine (rm_any _ _ (by omega) (by omega) (by omega) (by omega) _).mono ?_; rintro e w' ⟨rfl, rfl⟩)
    | (go_at_call 71; refine (of_any _ _ _ _ _).mono ?_; rintro e w1 ⟨rfl, hb⟩; have k := res2 hb; obtain ⟨hc, hf⟩ := bcell hb))
  all_goals
    refine bodyPost_ret ?_ rfl (head_none (balloc (Below.refl _ _) _))
    simp [results, Try.results69, go_sem]

set_option maxRecDepth 100000 in
set_option maxHeartbeats 2000000 in
theorem two_1F (d : Int) (s : Int) (dw : wideL d = 16) (d0 : 9 ≤ d) (d1 : d ≤ 16) (sw : wideL s = 0) (xd1 : ¬ d = 1) (xs1 : ¬ s = 1) (w : World) :
    Calls Try.prog 69 #[.int .i64 1, .int .i64 d, .int .i64 s] w (HeadIs w (twoL 1 d s)) := by
  have eq : twoL 1 d s = placesL d s := by simp [twoL, *, sameL, wb]
  rw [eq]
  clear eq
  obtain ⟨c1, c2, c3, c4⟩ := or_consts
  have nd0 := numL_lo d
  have nd1 := numL_hi d
  have qd1 := or176 _ nd0 nd1
  have qd2 := or184 _ nd0 nd1
  go_enter Try.func69, Try.ntmps69
  go_wp2_with (first
    | (go_at_call 94; refine (wide_any _ _).mono ?_; rintro e w' ⟨rfl, rfl⟩)
    | (go_at_call 96; refine (num_any _ (by omega) (by omega) _).mono ?_; rintro e w' ⟨rfl, rfl⟩)
    | (go_at_call 98; refine (mem_any _ _ (by omega) (by omega) (by omega) (by omega) _).mono ?_; rintro e w' ⟨rfl, rfl⟩)
    | (go_at_call 95; refine (rm_any _ _ (by omega) (by omega) (by omega) (by omega) _).mono ?_; rintro e w' ⟨rfl, rfl⟩)
    | (go_at_call 71; refine (of_any _ _ _ _ _).mono ?_; rintro e w1 ⟨rfl, hb⟩; have k := res2 hb; obtain ⟨hc, hf⟩ := bcell hb)
    | (go_at_call 97; refine (places_any d s _).mono ?_; rintro e w1 ⟨sl, rfl, hsl, hb⟩; have k := res1 hb; obtain ⟨hc, hf⟩ := bcell hb; rcases hsl with ⟨he, rfl⟩ | ⟨he, g, hg, rfl, ho⟩))
  · refine bodyPost_ret ?_ rfl (head_again (.inl ⟨he, rfl⟩) hb)
    simp [results, Try.results69, go_sem, k]
  · refine bodyPost_ret ?_ rfl (head_again (.inr ⟨he, g, hg, rfl, ho⟩) hb)
    simp [results, Try.results69, go_sem, k]

set_option maxRecDepth 100000 in
set_option maxHeartbeats 2000000 in
theorem two_0F (op : Int) (d : Int) (s : Int) (p0 : op ≤ 0) (dw : wideL d = 16) (d0 : 9 ≤ d) (d1 : d ≤ 16) (sw : wideL s = 0) (xd1 : ¬ d = 1) (xs1 : ¬ s = 1) (w : World) :
    Calls Try.prog 69 #[.int .i64 op, .int .i64 d, .int .i64 s] w (HeadIs w (twoL op d s)) := by
  have eq : twoL op d s = ([], 0) := by simp [twoL, *, sameL, wb, show (op == 1) = false by simp; omega, show (op == 17) = false by simp; omega, show (op == 30) = false by simp; omega, show (op == 31) = false by simp; omega, show op < 2 by omega]
  rw [eq]
  clear eq
  obtain ⟨c1, c2, c3, c4⟩ := or_consts
  have nd0 := numL_lo d
  have nd1 := numL_hi d
  have qd1 := or176 _ nd0 nd1
  have qd2 := or184 _ nd0 nd1
  go_enter Try.func69, Try.ntmps69
  go_wp2_with (first
    | (go_at_call 94; refine (wide_any _ _).mono ?_; rintro e w' ⟨rfl, rfl⟩)
    | (go_at_call 96; refine (num_any _ (by omega) (by omega) _).mono ?_; rintro e w' ⟨rfl, rfl⟩)
    | (go_at_call 98; refine (mem_any _ _ (by omega) (by omega) (by omega) (by omega) _).mono ?_; rintro e w' ⟨rfl, rfl⟩)
    | (go_at_call 95; refine (rm_any _ _ (by omega) (by omega) (by omega) (by omega) _).mono ?_; rintro e w' ⟨rfl, rfl⟩)
    | (go_at_call 71; refine (of_any _ _ _ _ _).mono ?_; rintro e w1 ⟨rfl, hb⟩; have k := res2 hb; obtain ⟨hc, hf⟩ := bcell hb))
  all_goals
    refine bodyPost_ret ?_ rfl (head_none (balloc (Below.refl _ _) _))
    simp [results, Try.results69, go_sem]

set_option maxRecDepth 100000 in
set_option maxHeartbeats 2000000 in
theorem two_1G (d : Int) (s : Int) (dw : wideL d = 0) (xd1 : ¬ d = 1) (w : World) :
    Calls Try.prog 69 #[.int .i64 1, .int .i64 d, .int .i64 s] w (HeadIs w (twoL 1 d s)) := by
  have eq : twoL 1 d s = placesL d s := by simp [twoL, *, sameL, wb]
  rw [eq]
  clear eq
  obtain ⟨c1, c2, c3, c4⟩ := or_consts
  go_enter Try.func69, Try.ntmps69
  go_wp2_with (first
    | (go_at_call 94; refine (wide_any _ _).mono ?_; rintro e w' ⟨rfl, rfl⟩)
    | (go_at_call 96; refine (num_any _ (by omega) (by omega) _).mono ?_; rintro e w' ⟨rfl, rfl⟩)
    | (go_at_call 98; refine (mem_any _ _ (by omega) (by omega) (by omega) (by omega) _).mono ?_; rintro e w' ⟨rfl, rfl⟩)
    | (go_at_call 95; refine (rm_any _ _ (by omega) (by omega) (by omega) (by omega) _).mono ?_; rintro e w' ⟨rfl, rfl⟩)
    | (go_at_call 71; refine (of_any _ _ _ _ _).mono ?_; rintro e w1 ⟨rfl, hb⟩; have k := res2 hb; obtain ⟨hc, hf⟩ := bcell hb)
    | (go_at_call 97; refine (places_any d s _).mono ?_; rintro e w1 ⟨sl, rfl, hsl, hb⟩; have k := res1 hb; obtain ⟨hc, hf⟩ := bcell hb; rcases hsl with ⟨he, rfl⟩ | ⟨he, g, hg, rfl, ho⟩))
  · refine bodyPost_ret ?_ rfl (head_again (.inl ⟨he, rfl⟩) hb)
    simp [results, Try.results69, go_sem, k]
  · refine bodyPost_ret ?_ rfl (head_again (.inr ⟨he, g, hg, rfl, ho⟩) hb)
    simp [results, Try.results69, go_sem, k]

set_option maxRecDepth 100000 in
set_option maxHeartbeats 2000000 in
theorem two_0G (op : Int) (d : Int) (s : Int) (p0 : op ≤ 0) (dw : wideL d = 0) (xd1 : ¬ d = 1) (w : World) :
    Calls Try.prog 69 #[.int .i64 op, .int .i64 d, .int .i64 s] w (HeadIs w (twoL op d s)) := by
  have eq : twoL op d s = ([], 0) := by simp [twoL, *, sameL, wb, show (op == 1) = false by simp; omega, show (op == 17) = false by simp; omega, show (op == 30) = false by simp; omega, show (op == 31) = false by simp; omega, show op < 2 by omega]
  rw [eq]
  clear eq
  obtain ⟨c1, c2, c3, c4⟩ := or_consts
  go_enter Try.func69, Try.ntmps69
  go_wp2_with (first
    | (go_at_call 94; refine (wide_any _ _).mono ?_; rintro e w' ⟨rfl, rfl⟩)
    | (go_at_call 96; refine (num_any _ (by omega) (by omega) _).mono ?_; rintro e w' ⟨rfl, rfl⟩)
    | (go_at_call 98; refine (mem_any _ _ (by omega) (by omega) (by omega) (by omega) _).mono ?_; rintro e w' ⟨rfl, rfl⟩)
    | (go_at_call 95; refine (rm_any _ _ (by omega) (by omega) (by omega) (by omega) _).mono ?_; rintro e w' ⟨rfl, rfl⟩)
    | (go_at_call 71; refine (of_any _ _ _ _ _).mono ?_; rintro e w1 ⟨rfl, hb⟩; have k := res2 hb; obtain ⟨hc, hf⟩ := bcell hb))
  all_goals
    refine bodyPost_ret ?_ rfl (head_none (balloc (Below.refl _ _) _))
    simp [results, Try.results69, go_sem]

end Go.Proofs.Ytbhkndblolegaaa
