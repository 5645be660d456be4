/- The walks of isa86.heads, first part. -/
import Derived.Test.YtbhkndblolegaaaIt
import Derived.Test.YtbhkndblolegaaaIo
namespace Go.Proofs.Ytbhkndblolegaaa
open Go.RowKit
set_option linter.unusedVariables false
set_option linter.unusedSimpArgs false

set_option maxRecDepth 100000 in
set_option maxHeartbeats 2000000 in
theorem heads_a (op d s : Int) (p0 : op < 1) (w : World) :
    Calls Try.prog 42 #[.int .i64 op, .int .i64 d, .int .i64 s] w (HeadIs w (headsL op d s)) := by
  have eq : headsL op d s = ([], 0) := by simp [headsL, *]
  rw [eq]
  clear eq
  go_enter Try.func42, Try.ntmps42
  go_wp2_with (first
    | (go_at_call 94; refine (wide_any _ _).mono ?_; rintro e w' ⟨rfl, rfl⟩)
    | (go_at_call 96; refine (num_any _ (by omega) (by omega) _).mono ?_; rintro e w' ⟨rfl, rfl⟩)
    | (go_at_call 98; refine (mem_any _ _ (by omega) (by omega) (by omega) (by omega) _).mono ?_; rintro e w' ⟨rfl, rfl⟩)
    | (go_at_call 95; refine (rm_any _ _ (by omega) (by omega) (by omega) (by omega) _).mono ?_; rintro e w' ⟨rfl, rfl⟩)
    | (go_at_call 71; refine (of_any _ _ _ _ _).mono ?_; rintro e w1 ⟨rfl, hb⟩; have k := res2 hb; obtain ⟨hc, hf⟩ := bcell hb))
  all_goals
    refine bodyPost_ret ?_ rfl (head_none (balloc (Below.refl _ _) _))
    simp [results, Try.results42, go_sem]

set_option maxRecDepth 100000 in
set_option maxHeartbeats 2000000 in
theorem heads_b (op d s : Int) (p0 : 1 ≤ op) (xs0 : ¬ s = 0) (w : World) :
    Calls Try.prog 42 #[.int .i64 op, .int .i64 d, .int .i64 s] w (HeadIs w (headsL op d s)) := by
  have eq : headsL op d s = twoL op d s := by simp [headsL, *, show ¬ op < 1 by omega]
  rw [eq]
  clear eq
  go_enter Try.func42, Try.ntmps42
  go_wp2_with (first
    | (go_at_call 94; refine (wide_any _ _).mono ?_; rintro e w' ⟨rfl, rfl⟩)
    | (go_at_call 96; refine (num_any _ (by omega) (by omega) _).mono ?_; rintro e w' ⟨rfl, rfl⟩)
    | (go_at_call 98; refine (mem_any _ _ (by omega) (by omega) (by omega) (by omega) _).mono ?_; rintro e w' ⟨rfl, rfl⟩)
    | (go_at_call 95; refine (rm_any _ _ (by omega) (by omega) (by omega) (by omega) _).mono ?_; rintro e w' ⟨rfl, rfl⟩)
    | (go_at_call 71; refine (of_any _ _ _ _ _).mono ?_; rintro e w1 ⟨rfl, hb⟩; have k := res2 hb; obtain ⟨hc, hf⟩ := bcell hb)
    | (go_at_call 69; refine (two_any op d s _).mono ?_; rintro e w1 ⟨sl, rfl, hsl, hb⟩; have k := res1 hb; obtain ⟨hc, hf⟩ := bcell hb; rcases hsl with ⟨he, rfl⟩ | ⟨he, g, hg, rfl, ho⟩))
  · refine bodyPost_ret ?_ rfl (head_again (.inl ⟨he, rfl⟩) hb)
    simp [results, Try.results42, go_sem, k]
  · refine bodyPost_ret ?_ rfl (head_again (.inr ⟨he, g, hg, rfl, ho⟩) hb)
    simp [results, Try.results42, go_sem, k]

set_option maxRecDepth 100000 in
set_option maxHeartbeats 2000000 in
theorem heads_c1 (d : Int)  (w : World) :
    Calls Try.prog 42 #[.int .i64 1, .int .i64 d, .int .i64 0] w (HeadIs w (headsL 1 d 0)) := by
  have eq : headsL 1 d 0 = twoL 1 d 0 := by simp [headsL, *]
  rw [eq]
  clear eq
  go_enter Try.func42, Try.ntmps42
  go_wp2_with (first
    | (go_at_call 94; refine (wide_any _ _).mono ?_; rintro e w' ⟨rfl, rfl⟩)
    | (go_at_call 96; refine (num_any _ (by omega) (by omega) _).mono ?_; rintro e w' ⟨rfl, rfl⟩)
    | (go_at_call 98; refine (mem_any _ _ (by omega) (by omega) (by omega) (by omega) _).mono ?_; rintro e w' ⟨rfl, rfl⟩)
    | (go_at_call 95; refine (rm_any _ _ (by omega) (by omega) (by omega) (by omega) _).mono ?_; rintro e w' ⟨rfl, rfl⟩)
    | (go_at_call 71; refine (of_any _ _ _ _ _).mono ?_; rintro e w1 ⟨rfl, hb⟩; have k := res2 hb; obtain ⟨hc, hf⟩ := bcell hb)
    | (go_at_call 69; refine (two_any 1 d 0 _).mono ?_; rintro e w1 ⟨sl, rfl, hsl, hb⟩; have k := res1 hb; obtain ⟨hc, hf⟩ := bcell hb; rcases hsl with ⟨he, rfl⟩ | ⟨he, g, hg, rfl, ho⟩))
  · refine bodyPost_ret ?_ rfl (head_again (.inl ⟨he, rfl⟩) hb)
    simp [results, Try.results42, go_sem, k]
  · refine bodyPost_ret ?_ rfl (head_again (.inr ⟨he, g, hg, rfl, ho⟩) hb)
    simp [results, Try.results42, go_sem, k]

set_option maxRecDepth 100000 in
set_option maxHeartbeats 2000000 in
theorem heads_c17 (d : Int)  (w : World) :
    Calls Try.prog 42 #[.int .i64 17, .int .i64 d, .int .i64 0] w (HeadIs w (headsL 17 d 0)) := by
  have eq : headsL 17 d 0 = twoL 17 d 0 := by simp [headsL, *]
  rw [eq]
  clear eq
  go_enter Try.func42, Try.ntmps42
  go_wp2_with (first
    | (go_at_call 94; refine (wide_any _ _).mono ?_; rintro e w' ⟨rfl, rfl⟩)
    | (go_at_call 96; refine (num_any _ (by omega) (by omega) _).mono ?_; rintro e w' ⟨rfl, rfl⟩)
    | (go_at_call 98; refine (mem_any _ _ (by omega) (by omega) (by omega) (by omega) _).mono ?_; rintro e w' ⟨rfl, rfl⟩)
    | (go_at_call 95; refine (rm_any _ _ (by omega) (by omega) (by omega) (by omega) _).mono ?_; rintro e w' ⟨rfl, rfl⟩)
    | (go_at_call 71; refine (of_any _ _ _ _ _).mono ?_; rintro e w1 ⟨rfl, hb⟩; have k := res2 hb; obtain ⟨hc, hf⟩ := bcell hb)
    | (go_at_call 69; refine (two_any 17 d 0 _).mono ?_; rintro e w1 ⟨sl, rfl, hsl, hb⟩; have k := res1 hb; obtain ⟨hc, hf⟩ := bcell hb; rcases hsl with ⟨he, rfl⟩ | ⟨he, g, hg, rfl, ho⟩))
  · refine bodyPost_ret ?_ rfl (head_again (.inl ⟨he, rfl⟩) hb)
    simp [results, Try.results42, go_sem, k]
  · refine bodyPost_ret ?_ rfl (head_again (.inr ⟨he, g, hg, rfl, ho⟩) hb)
    simp [results, Try.results42, go_sem, k]

set_option maxRecDepth 100000 in
set_option maxHeartbeats 2000000 in
theorem heads_e (op d : Int) (p0 : 10 ≤ op) (p1 : op ≤ 19) (xo17 : ¬ op = 17) (h1 : ¬ op < 1) (h2 : (op == 1) = false) (h3 : (op == 17) = false) (w : World) :
    Calls Try.prog 42 #[.int .i64 op, .int .i64 d, .int .i64 0] w (HeadIs w (headsL op d 0)) := by
  have eq : headsL op d 0 = oneL op d := by simp [headsL, *]
  rw [eq]
  clear eq
  go_enter Try.func42, Try.ntmps42
  go_wp2_with (first
    | (go_at_call 94; refine (wide_any _ _).mono ?_; rintro e w' ⟨rfl, rfl⟩)
    | (go_at_call 96; refine (num_any _ (by omega) (by omega) _).mono ?_; rintro e w' ⟨rfl, rfl⟩)
    | (go_at_call 98; refine (mem_any _ _ (by omega) (by omega) (by omega) (by omega) _).mono ?_; rintro e w' ⟨rfl, rfl⟩)
    | (go_at_call 95; refine (rm_any _ _ (by omega) (by omega) (by omega) (by omega) _).mono ?_; rintro e w' ⟨rfl, rfl⟩)
    | (go_at_call 71; refine (of_any _ _ _ _ _).mono ?_; rintro e w1 ⟨rfl, hb⟩; have k := res2 hb; obtain ⟨hc, hf⟩ := bcell hb)
    | (go_at_call 70; refine (one_any op d p0 p1 _).mono ?_; rintro e w1 ⟨sl, rfl, hsl, hb⟩; have k := res1 hb; obtain ⟨hc, hf⟩ := bcell hb; rcases hsl with ⟨he, rfl⟩ | ⟨he, g, hg, rfl, ho⟩))
  · refine bodyPost_ret ?_ rfl (head_again (.inl ⟨he, rfl⟩) hb)
    simp [results, Try.results42, go_sem, k]
  · refine bodyPost_ret ?_ rfl (head_again (.inr ⟨he, g, hg, rfl, ho⟩) hb)
    simp [results, Try.results42, go_sem, k]

set_option maxRecDepth 100000 in
set_option maxHeartbeats 2000000 in
theorem heads_r2z (op : Int) (p0 : 2 ≤ op) (p1 : op ≤ 9)  (g0 : (op == 1) = false) (g1 : (op == 17) = false) (g2 : ¬ op = 32) (g3 : ¬ op = 33) (g4 : ¬ op = 34) (g5 : ¬ op = 35) (g6 : ¬ op = 46) (g7 : ¬ op = 47) (g8 : ¬ op < 1) (g9 : ¬ 10 ≤ op) (g10 : ¬ 20 ≤ op) (g11 : ¬ 42 ≤ op) (g12 : op ≤ 19) (g13 : op ≤ 29) (g14 : op ≤ 51) (w : World) :
    Calls Try.prog 42 #[.int .i64 op, .int .i64 0, .int .i64 0] w (HeadIs w (headsL op 0 0)) := by
  have eq : headsL op 0 0 = ([], 0) := by simp [headsL, *]
  rw [eq]
  clear eq
  go_enter Try.func42, Try.ntmps42
  go_wp2_with (first
    | (go_at_call 94; refine (wide_any _ _).mono ?_; rintro e w' ⟨rfl, rfl⟩)
    | (go_at_call 96; refine (num_any _ (by omega) (by omega) _).mono ?_; rintro e w' ⟨rfl, rfl⟩)
    | (go_at_call 98; refine (mem_any _ _ (by omega) (by omega) (by omega) (by omega) _).mono ?_; rintro e w' ⟨rfl, rfl⟩)
    | (go_at_call 95; refine (rm_any _ _ (by omega) (by omega) (by omega) (by omega) _).mono ?_; rintro e w' ⟨rfl, rfl⟩)
    | (go_at_call 71; refine (of_any _ _ _ _ _).mono ?_; rintro e w1 ⟨rfl, hb⟩; have k := res2 hb; obtain ⟨hc, hf⟩ := bcell hb))
  all_goals
    refine bodyPost_ret ?_ rfl (head_none (balloc (Below.refl _ _) _))
    simp [results, Try.results42, go_sem]

set_option maxRecDepth 100000 in
set_option maxHeartbeats 2000000 in
theorem heads_r2t (op : Int) (p0 : 2 ≤ op) (p1 : op ≤ 9)  (g0 : (op == 1) = false) (g1 : (op == 17) = false) (g2 : ¬ op = 32) (g3 : ¬ op = 33) (g4 : ¬ op = 34) (g5 : ¬ op = 35) (g6 : ¬ op = 46) (g7 : ¬ op = 47) (g8 : ¬ op < 1) (g9 : ¬ 10 ≤ op) (g10 : ¬ 20 ≤ op) (g11 : ¬ 42 ≤ op) (g12 : op ≤ 19) (g13 : op ≤ 29) (g14 : op ≤ 51) (w : World) :
    Calls Try.prog 42 #[.int .i64 op, .int .i64 20, .int .i64 0] w (HeadIs w (headsL op 20 0)) := by
  have eq : headsL op 20 0 = ([], 0) := by simp [headsL, *]
  rw [eq]
  clear eq
  go_enter Try.func42, Try.ntmps42
  go_wp2_with (first
    | (go_at_call 94; refine (wide_any _ _).mono ?_; rintro e w' ⟨rfl, rfl⟩)
    | (go_at_call 96; refine (num_any _ (by omega) (by omega) _).mono ?_; rintro e w' ⟨rfl, rfl⟩)
    | (go_at_call 98; refine (mem_any _ _ (by omega) (by omega) (by omega) (by omega) _).mono ?_; rintro e w' ⟨rfl, rfl⟩)
    | (go_at_call 95; refine (rm_any _ _ (by omega) (by omega) (by omega) (by omega) _).mono ?_; rintro e w' ⟨rfl, rfl⟩)
    | (go_at_call 71; refine (of_any _ _ _ _ _).mono ?_; rintro e w1 ⟨rfl, hb⟩; have k := res2 hb; obtain ⟨hc, hf⟩ := bcell hb))
  all_goals
    refine bodyPost_ret ?_ rfl (head_none (balloc (Below.refl _ _) _))
    simp [results, Try.results42, go_sem]

set_option maxRecDepth 100000 in
set_option maxHeartbeats 2000000 in
theorem heads_r2x (op : Int) (d : Int) (p0 : 2 ≤ op) (p1 : op ≤ 9) (xd0 : ¬ d = 0) (xd20 : ¬ d = 20) (g0 : (op == 1) = false) (g1 : (op == 17) = false) (g2 : ¬ op = 32) (g3 : ¬ op = 33) (g4 : ¬ op = 34) (g5 : ¬ op = 35) (g6 : ¬ op = 46) (g7 : ¬ op = 47) (g8 : ¬ op < 1) (g9 : ¬ 10 ≤ op) (g10 : ¬ 20 ≤ op) (g11 : ¬ 42 ≤ op) (g12 : op ≤ 19) (g13 : op ≤ 29) (g14 : op ≤ 51) (w : World) :
    Calls Try.prog 42 #[.int .i64 op, .int .i64 d, .int .i64 0] w (HeadIs w (headsL op d 0)) := by
  have eq : headsL op d 0 = ([], 0) := by simp [headsL, *]
  rw [eq]
  clear eq
  go_enter Try.func42, Try.ntmps42
  go_wp2_with (first
    | (go_at_call 94; refine (wide_any _ _).mono ?_; rintro e w' ⟨rfl, rfl⟩)
    | (go_at_call 96; refine (num_any _ (by omega) (by omega) _).mono ?_; rintro e w' ⟨rfl, rfl⟩)
    | (go_at_call 98; refine (mem_any _ _ (by omega) (by omega) (by omega) (by omega) _).mono ?_; rintro e w' ⟨rfl, rfl⟩)
    | (go_at_call 95; refine (rm_any _ _ (by omega) (by omega) (by omega) (by omega) _).mono ?_; rintro e w' ⟨rfl, rfl⟩)
    | (go_at_call 71; refine (of_any _ _ _ _ _).mono ?_; rintro e w1 ⟨rfl, hb⟩; have k := res2 hb; obtain ⟨hc, hf⟩ := bcell hb))
  all_goals
    refine bodyPost_ret ?_ rfl (head_none (balloc (Below.refl _ _) _))
    simp [results, Try.results42, go_sem]

set_option maxRecDepth 100000 in
set_option maxHeartbeats 2000000 in
theorem heads_r3z (op : Int) (p0 : 30 ≤ op) (p1 : op ≤ 31)  (g0 : (op == 1) = false) (g1 : (op == 17) = false) (g2 : ¬ op = 32) (g3 : ¬ op = 33) (g4 : ¬ op = 34) (g5 : ¬ op = 35) (g6 : ¬ op = 46) (g7 : ¬ op = 47) (g8 : ¬ op < 1) (g9 : 10 ≤ op) (g10 : 20 ≤ op) (g11 : ¬ 42 ≤ op) (g12 : ¬ op ≤ 19) (g13 : ¬ op ≤ 29) (g14 : op ≤ 51) (w : World) :
    Calls Try.prog 42 #[.int .i64 op, .int .i64 0, .int .i64 0] w (HeadIs w (headsL op 0 0)) := by
  have eq : headsL op 0 0 = ([], 0) := by simp [headsL, *]
  rw [eq]
  clear eq
  go_enter Try.func42, Try.ntmps42
  go_wp2_with (first
    | (go_at_call 94; refine (wide_any _ _).mono ?_; rintro e w' ⟨rfl, rfl⟩)
    | (go_at_call 96; refine (num_any _ (by omega) (by omega) _).mono ?_; rintro e w' ⟨rfl, rfl⟩)
    | (go_at_call 98; refine (mem_any _ _ (by omega) (by omega) (by omega) (by omega) _).mono ?_; rintro e w' ⟨rfl, rfl⟩)
    | (go_at_call 95; refine (rm_any _ _ (by omega) (by omega) (by omega) (by omega) _).mono ?_; rintro e w' ⟨rfl, rfl⟩)
    | (go_at_call 71; refine (of_any _ _ _ _ _).mono ?_; rintro e w1 ⟨rfl, hb⟩; have k := res2 hb; obtain ⟨hc, hf⟩ := bcell hb))
  all_goals
    refine bodyPost_ret ?_ rfl (head_none (balloc (Below.refl _ _) _))
    simp [results, Try.results42, go_sem]

set_option maxRecDepth 100000 in
set_option maxHeartbeats 2000000 in
theorem heads_r3t (op : Int) (p0 : 30 ≤ op) (p1 : op ≤ 31)  (g0 : (op == 1) = false) (g1 : (op == 17) = false) (g2 : ¬ op = 32) (g3 : ¬ op = 33) (g4 : ¬ op = 34) (g5 : ¬ op = 35) (g6 : ¬ op = 46) (g7 : ¬ op = 47) (g8 : ¬ op < 1) (g9 : 10 ≤ op) (g10 : 20 ≤ op) (g11 : ¬ 42 ≤ op) (g12 : ¬ op ≤ 19) (g13 : ¬ op ≤ 29) (g14 : op ≤ 51) (w : World) :
    Calls Try.prog 42 #[.int .i64 op, .int .i64 20, .int .i64 0] w (HeadIs w (headsL op 20 0)) := by
  have eq : headsL op 20 0 = ([], 0) := by simp [headsL, *]
  rw [eq]
  clear eq
  go_enter Try.func42, Try.ntmps42
  go_wp2_with (first
    | (go_at_call 94; refine (wide_any _ _).mono ?_; rintro e w' ⟨rfl, rfl⟩)
    | (go_at_call 96; refine (num_any _ (by omega) (by omega) _).mono ?_; rintro e w' ⟨rfl, rfl⟩)
    | (go_at_call 98; refine (mem_any _ _ (by omega) (by omega) (by omega) (by omega) _).mono ?_; rintro e w' ⟨rfl, rfl⟩)
    | (go_at_call 95; refine (rm_any _ _ (by omega) (by omega) (by omega) (by omega) _).mono ?_; rintro e w' ⟨rfl, rfl⟩)
    | (go_at_call 71; refine (of_any _ _ _ _ _).mono ?_; rintro e w1 ⟨rfl, hb⟩; have k := res2 hb; obtain ⟨hc, hf⟩ := bcell hb))
  all_goals
    refine bodyPost_ret ?_ rfl (head_none (balloc (Below.refl _ _) _))
    simp [results, Try.results42, go_sem]

set_option maxRecDepth 100000 in
set_option maxHeartbeats 2000000 in
theorem heads_r3x (op : Int) (d : Int) (p0 : 30 ≤ op) (p1 : op ≤ 31) (xd0 : ¬ d = 0) (xd20 : ¬ d = 20) (g0 : (op == 1) = false) (g1 : (op == 17) = false) (g2 : ¬ op = 32) (g3 : ¬ op = 33) (g4 : ¬ op = 34) (g5 : ¬ op = 35) (g6 : ¬ op = 46) (g7 : ¬ op = 47) (g8 : ¬ op < 1) (g9 : 10 ≤ op) (g10 : 20 ≤ op) (g11 : ¬ 42 ≤ op) (g12 : ¬ op ≤ 19) (g13 : ¬ op ≤ 29) (g14 : op ≤ 51) (w : World) :
    Calls Try.prog 42 #[.int .i64 op, .int .i64 d, .int .i64 0] w (HeadIs w (headsL op d 0)) := by
  have eq : headsL op d 0 = ([], 0) := by simp [headsL, *]
  rw [eq]
  clear eq
  go_enter Try.func42, Try.ntmps42
  go_wp2_with (first
    | (go_at_call 94; refine (wide_any _ _).mono ?_; rintro e w' ⟨rfl, rfl⟩)
    | (go_at_call 96; refine (num_any _ (by omega) (by omega) _).mono ?_; rintro e w' ⟨rfl, rfl⟩)
    | (go_at_call 98; refine (mem_any _ _ (by omega) (by omega) (by omega) (by omega) _).mono ?_; rintro e w' ⟨rfl, rfl⟩)
    | (go_at_call 95; refine (rm_any _ _ (by omega) (by omega) (by omega) (by omega) _).mono ?_; rintro e w' ⟨rfl, rfl⟩)
    | (go_at_call 71; refine (of_any _ _ _ _ _).mono ?_; rintro e w1 ⟨rfl, hb⟩; have k := res2 hb; obtain ⟨hc, hf⟩ := bcell hb))
  all_goals
    refine bodyPost_ret ?_ rfl (head_none (balloc (Below.refl _ _) _))
    simp [results, Try.results42, go_sem]

set_option maxRecDepth 100000 in
set_option maxHeartbeats 2000000 in
theorem heads_r4z (op : Int) (p0 : 36 ≤ op) (p1 : op ≤ 41)  (g0 : (op == 1) = false) (g1 : (op == 17) = false) (g2 : ¬ op = 32) (g3 : ¬ op = 33) (g4 : ¬ op = 34) (g5 : ¬ op = 35) (g6 : ¬ op = 46) (g7 : ¬ op = 47) (g8 : ¬ op < 1) (g9 : 10 ≤ op) (g10 : 20 ≤ op) (g11 : ¬ 42 ≤ op) (g12 : ¬ op ≤ 19) (g13 : ¬ op ≤ 29) (g14 : op ≤ 51) (w : World) :
    Calls Try.prog 42 #[.int .i64 op, .int .i64 0, .int .i64 0] w (HeadIs w (headsL op 0 0)) := by
  have eq : headsL op 0 0 = ([], 0) := by simp [headsL, *]
  rw [eq]
  clear eq
  go_enter Try.func42, Try.ntmps42
  go_wp2_with (first
    | (go_at_call 94; refine (wide_any _ _).mono ?_; rintro e w' ⟨rfl, rfl⟩)
    | (go_at_call 96; refine (num_any _ (by omega) (by omega) _).mono ?_; rintro e w' ⟨rfl, rfl⟩)
    | (go_at_call 98; refine (mem_any _ _ (by omega) (by omega) (by omega) (by omega) _).mono ?_; rintro e w' ⟨rfl, rfl⟩)
    | (go_at_call 95; refine (rm_any _ _ (by omega) (by omega) (by omega) (by omega) _).mono ?_; rintro e w' ⟨rfl, rfl⟩)
    | (go_at_call 71; refine (of_any _ _ _ _ _).mono ?_; rintro e w1 ⟨rfl, hb⟩; have k := res2 hb; obtain ⟨hc, hf⟩ := bcell hb))
  all_goals
    refine bodyPost_ret ?_ rfl (head_none (balloc (Below.refl _ _) _))
    simp [results, Try.results42, go_sem]

set_option maxRecDepth 100000 in
set_option maxHeartbeats 2000000 in
theorem heads_r4t (op : Int) (p0 : 36 ≤ op) (p1 : op ≤ 41)  (g0 : (op == 1) = false) (g1 : (op == 17) = false) (g2 : ¬ op = 32) (g3 : ¬ op = 33) (g4 : ¬ op = 34) (g5 : ¬ op = 35) (g6 : ¬ op = 46) (g7 : ¬ op = 47) (g8 : ¬ op < 1) (g9 : 10 ≤ op) (g10 : 20 ≤ op) (g11 : ¬ 42 ≤ op) (g12 : ¬ op ≤ 19) (g13 : ¬ op ≤ 29) (g14 : op ≤ 51) (w : World) :
    Calls Try.prog 42 #[.int .i64 op, .int .i64 20, .int .i64 0] w (HeadIs w (headsL op 20 0)) := by
  have eq : headsL op 20 0 = ([], 0) := by simp [headsL, *]
  rw [eq]
  clear eq
  go_enter Try.func42, Try.ntmps42
  go_wp2_with (first
    | (go_at_call 94; refine (wide_any _ _).mono ?_; rintro e w' ⟨rfl, rfl⟩)
    | (go_at_call 96; refine (num_any _ (by omega) (by omega) _).mono ?_; rintro e w' ⟨rfl, rfl⟩)
    | (go_at_call 98; refine (mem_any _ _ (by omega) (by omega) (by omega) (by omega) _).mono ?_; rintro e w' ⟨rfl, rfl⟩)
    | (go_at_call 95; refine (rm_any _ _ (by omega) (by omega) (by omega) (by omega) _).mono ?_; rintro e w' ⟨rfl, rfl⟩)
    | (go_at_call 71; refine (of_any _ _ _ _ _).mono ?_; rintro e w1 ⟨rfl, hb⟩; have k := res2 hb; obtain ⟨hc, hf⟩ := bcell hb))
  all_goals
    refine bodyPost_ret ?_ rfl (head_none (balloc (Below.refl _ _) _))
    simp [results, Try.results42, go_sem]

set_option maxRecDepth 100000 in
set_option maxHeartbeats 2000000 in
theorem heads_r4x (op : Int) (d : Int) (p0 : 36 ≤ op) (p1 : op ≤ 41) (xd0 : ¬ d = 0) (xd20 : ¬ d = 20) (g0 : (op == 1) = false) (g1 : (op == 17) = false) (g2 : ¬ op = 32) (g3 : ¬ op = 33) (g4 : ¬ op = 34) (g5 : ¬ op = 35) (g6 : ¬ op = 46) (g7 : ¬ op = 47) (g8 : ¬ op < 1) (g9 : 10 ≤ op) (g10 : 20 ≤ op) (g11 : ¬ 42 ≤ op) (g12 : ¬ op ≤ 19) (g13 : ¬ op ≤ 29) (g14 : op ≤ 51) (w : World) :
    Calls Try.prog 42 #[.int .i64 op, .int .i64 d, .int .i64 0] w (HeadIs w (headsL op d 0)) := by
  have eq : headsL op d 0 = ([], 0) := by simp [headsL, *]
  rw [eq]
  clear eq
  go_enter Try.func42, Try.ntmps42
  go_wp2_with (first
    | (go_at_call 94; refine (wide_any _ _).mono ?_; rintro e w' ⟨rfl, rfl⟩)
    | (go_at_call 96; refine (num_any _ (by omega) (by omega) _).mono ?_; rintro e w' ⟨rfl, rfl⟩)
    | (go_at_call 98; refine (mem_any _ _ (by omega) (by omega) (by omega) (by omega) _).mono ?_; rintro e w' ⟨rfl, rfl⟩)
    | (go_at_call 95; refine (rm_any _ _ (by omega) (by omega) (by omega) (by omega) _).mono ?_; rintro e w' ⟨rfl, rfl⟩)
    | (go_at_call 71; refine (of_any _ _ _ _ _).mono ?_; rintro e w1 ⟨rfl, hb⟩; have k := res2 hb; obtain ⟨hc, hf⟩ := bcell hb))
  all_goals
    refine bodyPost_ret ?_ rfl (head_none (balloc (Below.refl _ _) _))
    simp [results, Try.results42, go_sem]

set_option maxRecDepth 100000 in
set_option maxHeartbeats 2000000 in
theorem heads_46z   (w : World) :
    Calls Try.prog 42 #[.int .i64 46, .int .i64 0, .int .i64 0] w (HeadIs w (headsL 46 0 0)) := by
  have eq : headsL 46 0 0 = ([], 0) := by simp [headsL, *]
  rw [eq]
  clear eq
  go_enter Try.func42, Try.ntmps42
  go_wp2_with (first
    | (go_at_call 94; refine (wide_any _ _).mono ?_; rintro e w' ⟨rfl, rfl⟩)
    | (go_at_call 96; refine (num_any _ (by omega) (by omega) _).mono ?_; rintro e w' ⟨rfl, rfl⟩)
    | (go_at_call 98; refine (mem_any _ _ (by omega) (by omega) (by omega) (by omega) _).mono ?_; rintro e w' ⟨rfl, rfl⟩)
    | (go_at_call 95; refine (rm_any _ _ (by omega) (by omega) (by omega) (by omega) _).mono ?_; rintro e w' ⟨rfl, rfl⟩)
    | (go_at_call 71; refine (of_any _ _ _ _ _).mono ?_; rintro e w1 ⟨rfl, hb⟩; have k := res2 hb; obtain ⟨hc, hf⟩ := bcell hb))
  all_goals
    refine bodyPost_ret ?_ rfl (head_none (balloc (Below.refl _ _) _))
    simp [results, Try.results42, go_sem]

set_option maxRecDepth 100000 in
set_option maxHeartbeats 2000000 in
theorem heads_46t   (w : World) :
    Calls Try.prog 42 #[.int .i64 46, .int .i64 20, .int .i64 0] w (HeadIs w (headsL 46 20 0)) := by
  have eq : headsL 46 20 0 = ([], 0) := by simp [headsL, *]
  rw [eq]
  clear eq
  go_enter Try.func42, Try.ntmps42
  go_wp2_with (first
    | (go_at_call 94; refine (wide_any _ _).mono ?_; rintro e w' ⟨rfl, rfl⟩)
    | (go_at_call 96; refine (num_any _ (by omega) (by omega) _).mono ?_; rintro e w' ⟨rfl, rfl⟩)
    | (go_at_call 98; refine (mem_any _ _ (by omega) (by omega) (by omega) (by omega) _).mono ?_; rintro e w' ⟨rfl, rfl⟩)
    | (go_at_call 95; refine (rm_any _ _ (by omega) (by omega) (by omega) (by omega) _).mono ?_; rintro e w' ⟨rfl, rfl⟩)
    | (go_at_call 71; refine (of_any _ _ _ _ _).mono ?_; rintro e w1 ⟨rfl, hb⟩; have k := res2 hb; obtain ⟨hc, hf⟩ := bcell hb))
  all_goals
    refine bodyPost_ret ?_ rfl (head_none (balloc (Below.refl _ _) _))
    simp [results, Try.results42, go_sem]

set_option maxRecDepth 100000 in
set_option maxHeartbeats 2000000 in
theorem heads_46x (d : Int) (xd0 : ¬ d = 0) (xd20 : ¬ d = 20) (w : World) :
    Calls Try.prog 42 #[.int .i64 46, .int .i64 d, .int .i64 0] w (HeadIs w (headsL 46 d 0)) := by
  have eq : headsL 46 d 0 = ([], 0) := by simp [headsL, *]
  rw [eq]
  clear eq
  go_enter Try.func42, Try.ntmps42
  go_wp2_with (first
    | (go_at_call 94; refine (wide_any _ _).mono ?_; rintro e w' ⟨rfl, rfl⟩)
    | (go_at_call 96; refine (num_any _ (by omega) (by omega) _).mono ?_; rintro e w' ⟨rfl, rfl⟩)
    | (go_at_call 98; refine (mem_any _ _ (by omega) (by omega) (by omega) (by omega) _).mono ?_; rintro e w' ⟨rfl, rfl⟩)
    | (go_at_call 95; refine (rm_any _ _ (by omega) (by omega) (by omega) (by omega) _).mono ?_; rintro e w' ⟨rfl, rfl⟩)
    | (go_at_call 71; refine (of_any _ _ _ _ _).mono ?_; rintro e w1 ⟨rfl, hb⟩; have k := res2 hb; obtain ⟨hc, hf⟩ := bcell hb))
  all_goals
    refine bodyPost_ret ?_ rfl (head_none (balloc (Below.refl _ _) _))
    simp [results, Try.results42, go_sem]

set_option maxRecDepth 100000 in
set_option maxHeartbeats 2000000 in
theorem heads_47z   (w : World) :
    Calls Try.prog 42 #[.int .i64 47, .int .i64 0, .int .i64 0] w (HeadIs w (headsL 47 0 0)) := by
  have eq : headsL 47 0 0 = ([], 0) := by simp [headsL, *]
  rw [eq]
  clear eq
  go_enter Try.func42, Try.ntmps42
  go_wp2_with (first
    | (go_at_call 94; refine (wide_any _ _).mono ?_; rintro e w' ⟨rfl, rfl⟩)
    | (go_at_call 96; refine (num_any _ (by omega) (by omega) _).mono ?_; rintro e w' ⟨rfl, rfl⟩)
    | (go_at_call 98; refine (mem_any _ _ (by omega) (by omega) (by omega) (by omega) _).mono ?_; rintro e w' ⟨rfl, rfl⟩)
    | (go_at_call 95; refine (rm_any _ _ (by omega) (by omega) (by omega) (by omega) _).mono ?_; rintro e w' ⟨rfl, rfl⟩)
    | (go_at_call 71; refine (of_any _ _ _ _ _).mono ?_; rintro e w1 ⟨rfl, hb⟩; have k := res2 hb; obtain ⟨hc, hf⟩ := bcell hb))
  all_goals
    refine bodyPost_ret ?_ rfl (head_none (balloc (Below.refl _ _) _))
    simp [results, Try.results42, go_sem]

set_option maxRecDepth 100000 in
set_option maxHeartbeats 2000000 in
theorem heads_47t   (w : World) :
    Calls Try.prog 42 #[.int .i64 47, .int .i64 20, .int .i64 0] w (HeadIs w (headsL 47 20 0)) := by
  have eq : headsL 47 20 0 = ([], 0) := by simp [headsL, *]
  rw [eq]
  clear eq
  go_enter Try.func42, Try.ntmps42
  go_wp2_with (first
    | (go_at_call 94; refine (wide_any _ _).mono ?_; rintro e w' ⟨rfl, rfl⟩)
    | (go_at_call 96; refine (num_any _ (by omega) (by omega) _).mono ?_; rintro e w' ⟨rfl, rfl⟩)
    | (go_at_call 98; refine (mem_any _ _ (by omega) (by omega) (by omega) (by omega) _).mono ?_; rintro e w' ⟨rfl, rfl⟩)
    | (go_at_call 95; refine (rm_any _ _ (by omega) (by omega) (by omega) (by omega) _).mono ?_; rintro e w' ⟨rfl, rfl⟩)
    | (go_at_call 71; refine (of_any _ _ _ _ _).mono ?_; rintro e w1 ⟨rfl, hb⟩; have k := res2 hb; obtain ⟨hc, hf⟩ := bcell hb))
  all_goals
    refine bodyPost_ret ?_ rfl (head_none (balloc (Below.refl _ _) _))
    simp [results, Try.results42, go_sem]

set_option maxRecDepth 100000 in
set_option maxHeartbeats 2000000 in
theorem heads_47x (d : Int) (xd0 : ¬ d = 0) (xd20 : ¬ d = 20) (w : World) :
    Calls Try.prog 42 #[.int .i64 47, .int .i64 d, .int .i64 0] w (HeadIs w (headsL 47 d 0)) := by
  have eq : headsL 47 d 0 = ([], 0) := by simp [headsL, *]
  rw [eq]
  clear eq
  go_enter Try.func42, Try.ntmps42
  go_wp2_with (first
    | (go_at_call 94; refine (wide_any _ _).mono ?_; rintro e w' ⟨rfl, rfl⟩)
    | (go_at_call 96; refine (num_any _ (by omega) (by omega) _).mono ?_; rintro e w' ⟨rfl, rfl⟩)
    | (go_at_call 98; refine (mem_any _ _ (by omega) (by omega) (by omega) (by omega) _).mono ?_; rintro e w' ⟨rfl, rfl⟩)
    | (go_at_call 95; refine (rm_any _ _ (by omega) (by omega) (by omega) (by omega) _).mono ?_; rintro e w' ⟨rfl, rfl⟩)
    | (go_at_call 71; refine (of_any _ _ _ _ _).mono ?_; rintro e w1 ⟨rfl, hb⟩; have k := res2 hb; obtain ⟨hc, hf⟩ := bcell hb))
  all_goals
    refine bodyPost_ret ?_ rfl (head_none (balloc (Below.refl _ _) _))
    simp [results, Try.results42, go_sem]

set_option maxRecDepth 100000 in
set_option maxHeartbeats 2000000 in
theorem heads_r6z (op : Int) (p0 : 52 ≤ op)  (g0 : (op == 1) = false) (g1 : (op == 17) = false) (g2 : ¬ op = 32) (g3 : ¬ op = 33) (g4 : ¬ op = 34) (g5 : ¬ op = 35) (g6 : ¬ op = 46) (g7 : ¬ op = 47) (g8 : ¬ op < 1) (g9 : 10 ≤ op) (g10 : 20 ≤ op) (g11 : 42 ≤ op) (g12 : ¬ op ≤ 19) (g13 : ¬ op ≤ 29) (g14 : ¬ op ≤ 51) (w : World) :
    Calls Try.prog 42 #[.int .i64 op, .int .i64 0, .int .i64 0] w (HeadIs w (headsL op 0 0)) := by
  have eq : headsL op 0 0 = ([], 0) := by simp [headsL, *]
  rw [eq]
  clear eq
  go_enter Try.func42, Try.ntmps42
  go_wp2_with (first
    | (go_at_call 94; refine (wide_any _ _).mono ?_; rintro e w' ⟨rfl, rfl⟩)
    | (go_at_call 96; refine (num_any _ (by omega) (by omega) _).mono ?_; rintro e w' ⟨rfl, rfl⟩)
    | (go_at_call 98; refine (mem_any _ _ (by omega) (by omega) (by omega) (by omega) _).mono ?_; rintro e w' ⟨rfl, rfl⟩)
    | (go_at_call 95; refine (rm_any _ _ (by omega) (by omega) (by omega) (by omega) _).mono ?_; rintro e w' ⟨rfl, rfl⟩)
    | (go_at_call 71; refine (of_any _ _ _ _ _).mono ?_; rintro e w1 ⟨rfl, hb⟩; have k := res2 hb; obtain ⟨hc, hf⟩ := bcell hb))
  all_goals
    refine bodyPost_ret ?_ rfl (head_none (balloc (Below.refl _ _) _))
    simp [results, Try.results42, go_sem]

set_option maxRecDepth 100000 in
set_option maxHeartbeats 2000000 in
theorem heads_r6t (op : Int) (p0 : 52 ≤ op)  (g0 : (op == 1) = false) (g1 : (op == 17) = false) (g2 : ¬ op = 32) (g3 : ¬ op = 33) (g4 : ¬ op = 34) (g5 : ¬ op = 35) (g6 : ¬ op = 46) (g7 : ¬ op = 47) (g8 : ¬ op < 1) (g9 : 10 ≤ op) (g10 : 20 ≤ op) (g11 : 42 ≤ op) (g12 : ¬ op ≤ 19) (g13 : ¬ op ≤ 29) (g14 : ¬ op ≤ 51) (w : World) :
    Calls Try.prog 42 #[.int .i64 op, .int .i64 20, .int .i64 0] w (HeadIs w (headsL op 20 0)) := by
  have eq : headsL op 20 0 = ([], 0) := by simp [headsL, *]
  rw [eq]
  clear eq
  go_enter Try.func42, Try.ntmps42
  go_wp2_with (first
    | (go_at_call 94; refine (wide_any _ _).mono ?_; rintro e w' ⟨rfl, rfl⟩)
    | (go_at_call 96; refine (num_any _ (by omega) (by omega) _).mono ?_; rintro e w' ⟨rfl, rfl⟩)
    | (go_at_call 98; refine (mem_any _ _ (by omega) (by omega) (by omega) (by omega) _).mono ?_; rintro e w' ⟨rfl, rfl⟩)
    | (go_at_call 95; refine (rm_any _ _ (by omega) (by omega) (by omega) (by omega) _).mono ?_; rintro e w' ⟨rfl, rfl⟩)
    | (go_at_call 71; refine (of_any _ _ _ _ _).mono ?_; rintro e w1 ⟨rfl, hb⟩; have k := res2 hb; obtain ⟨hc, hf⟩ := bcell hb))
  all_goals
    refine bodyPost_ret ?_ rfl (head_none (balloc (Below.refl _ _) _))
    simp [results, Try.results42, go_sem]

set_option maxRecDepth 100000 in
set_option maxHeartbeats 2000000 in
theorem heads_r6x (op : Int) (d : Int) (p0 : 52 ≤ op) (xd0 : ¬ d = 0) (xd20 : ¬ d = 20) (g0 : (op == 1) = false) (g1 : (op == 17) = false) (g2 : ¬ op = 32) (g3 : ¬ op = 33) (g4 : ¬ op = 34) (g5 : ¬ op = 35) (g6 : ¬ op = 46) (g7 : ¬ op = 47) (g8 : ¬ op < 1) (g9 : 10 ≤ op) (g10 : 20 ≤ op) (g11 : 42 ≤ op) (g12 : ¬ op ≤ 19) (g13 : ¬ op ≤ 29) (g14 : ¬ op ≤ 51) (w : World) :
    Calls Try.prog 42 #[.int .i64 op, .int .i64 d, .int .i64 0] w (HeadIs w (headsL op d 0)) := by
  have eq : headsL op d 0 = ([], 0) := by simp [headsL, *]
  rw [eq]
  clear eq
  go_enter Try.func42, Try.ntmps42
  go_wp2_with (first
    | (go_at_call 94; refine (wide_any _ _).mono ?_; rintro e w' ⟨rfl, rfl⟩)
    | (go_at_call 96; refine (num_any _ (by omega) (by omega) _).mono ?_; rintro e w' ⟨rfl, rfl⟩)
    | (go_at_call 98; refine (mem_any _ _ (by omega) (by omega) (by omega) (by omega) _).mono ?_; rintro e w' ⟨rfl, rfl⟩)
    | (go_at_call 95; refine (rm_any _ _ (by omega) (by omega) (by omega) (by omega) _).mono ?_; rintro e w' ⟨rfl, rfl⟩)
    | (go_at_call 71; refine (of_any _ _ _ _ _).mono ?_; rintro e w1 ⟨rfl, hb⟩; have k := res2 hb; obtain ⟨hc, hf⟩ := bcell hb))
  all_goals
    refine bodyPost_ret ?_ rfl (head_none (balloc (Below.refl _ _) _))
    simp [results, Try.results42, go_sem]

end Go.Proofs.Ytbhkndblolegaaa
