/- The walks of isa86.heads, second part. -/
import Derived.Test.YtbhkndblolegaaaIb
namespace Go.Proofs.Ytbhkndblolegaaa
open Go.RowKit
set_option linter.unusedVariables false
set_option linter.unusedSimpArgs false

theorem near_consts : bits BinOp.or IntKind.u8 112 2 = 114 ∧ bits BinOp.or IntKind.u8 112 3 = 115 ∧ bits BinOp.or IntKind.u8 112 4 = 116 ∧ bits BinOp.or IntKind.u8 112 5 = 117 ∧ bits BinOp.or IntKind.u8 112 8 = 120 ∧ bits BinOp.or IntKind.u8 112 9 = 121 ∧ bits BinOp.or IntKind.u8 112 10 = 122 ∧ bits BinOp.or IntKind.u8 112 11 = 123 := by decide +kernel

set_option maxRecDepth 100000 in
set_option maxHeartbeats 2000000 in
theorem heads_20   (w : World) :
    Calls Try.prog 42 #[.int .i64 20, .int .i64 0, .int .i64 0] w (HeadIs w (headsL 20 0 0)) := by
  have eq : headsL 20 0 0 = ([159], 0) := by simp [headsL, aloneB]
  rw [eq]
  clear eq
  obtain ⟨c1, c2, c3, c4, c5, c6, c7, c8⟩ := near_consts
  go_enter Try.func42, Try.ntmps42
  go_wp2_with (first
    | (go_at_call 94; refine (wide_any _ _).mono ?_; rintro e w' ⟨rfl, rfl⟩)
    | (go_at_call 96; refine (num_any _ (by omega) (by omega) _).mono ?_; rintro e w' ⟨rfl, rfl⟩)
    | (go_at_call 98; refine (mem_any _ _ (by omega) (by omega) (by omega) (by omega) _).mono ?_; rintro e w' ⟨rfl, rfl⟩)
    | (go_at_call 95; refine (rm_any _ _ (by omega) (by omega) (by omega) (by omega) _).mono ?_; rintro e w' ⟨rfl, rfl⟩)
    | (go_at_call 71; refine (of_any _ _ _ _ _).mono ?_; rintro e w1 ⟨rfl, hb⟩; have k := res2 hb; obtain ⟨hc, hf⟩ := bcell hb))
  all_goals
    refine bodyPost_ret ?_ rfl (head_leaf1 hb)
    simp [results, Try.results42, go_sem, k]

set_option maxRecDepth 100000 in
set_option maxHeartbeats 2000000 in
theorem heads_20n (d : Int) (xd0 : ¬ d = 0) (w : World) :
    Calls Try.prog 42 #[.int .i64 20, .int .i64 d, .int .i64 0] w (HeadIs w (headsL 20 d 0)) := by
  have eq : headsL 20 d 0 = ([], 0) := by simp [headsL, *, aloneB]
  rw [eq]
  clear eq
  go_enter Try.func42, Try.ntmps42
  go_wp2_with (first
    | (go_at_call 94; refine (wide_any _ _).mono ?_; rintro e w' ⟨rfl, rfl⟩)
    | (go_at_call 96; refine (num_any _ (by omega) (by omega) _).mono ?_; rintro e w' ⟨rfl, rfl⟩)
    | (go_at_call 98; refine (mem_any _ _ (by omega) (by omega) (by omega) (by omega) _).mono ?_; rintro e w' ⟨rfl, rfl⟩)
    | (go_at_call 95; refine (rm_any _ _ (by omega) (by omega) (by omega) (by omega) _).mono ?_; rintro e w' ⟨rfl, rfl⟩)
    | (go_at_call 71; refine (of_any _ _ _ _ _).mono ?_; rintro e w1 ⟨rfl, hb⟩; have k := res2 hb; obtain ⟨hc, hf⟩ := bcell hb))
  all_goals
    refine bodyPost_ret ?_ rfl (head_none (balloc (Below.refl _ _) _))
    simp [results, Try.results42, go_sem]

set_option maxRecDepth 100000 in
set_option maxHeartbeats 2000000 in
theorem heads_21   (w : World) :
    Calls Try.prog 42 #[.int .i64 21, .int .i64 0, .int .i64 0] w (HeadIs w (headsL 21 0 0)) := by
  have eq : headsL 21 0 0 = ([158], 0) := by simp [headsL, aloneB]
  rw [eq]
  clear eq
  obtain ⟨c1, c2, c3, c4, c5, c6, c7, c8⟩ := near_consts
  go_enter Try.func42, Try.ntmps42
  go_wp2_with (first
    | (go_at_call 94; refine (wide_any _ _).mono ?_; rintro e w' ⟨rfl, rfl⟩)
    | (go_at_call 96; refine (num_any _ (by omega) (by omega) _).mono ?_; rintro e w' ⟨rfl, rfl⟩)
    | (go_at_call 98; refine (mem_any _ _ (by omega) (by omega) (by omega) (by omega) _).mono ?_; rintro e w' ⟨rfl, rfl⟩)
    | (go_at_call 95; refine (rm_any _ _ (by omega) (by omega) (by omega) (by omega) _).mono ?_; rintro e w' ⟨rfl, rfl⟩)
    | (go_at_call 71; refine (of_any _ _ _ _ _).mono ?_; rintro e w1 ⟨rfl, hb⟩; have k := res2 hb; obtain ⟨hc, hf⟩ := bcell hb))
  all_goals
    refine bodyPost_ret ?_ rfl (head_leaf1 hb)
    simp [results, Try.results42, go_sem, k]

set_option maxRecDepth 100000 in
set_option maxHeartbeats 2000000 in
theorem heads_21n (d : Int) (xd0 : ¬ d = 0) (w : World) :
    Calls Try.prog 42 #[.int .i64 21, .int .i64 d, .int .i64 0] w (HeadIs w (headsL 21 d 0)) := by
  have eq : headsL 21 d 0 = ([], 0) := by simp [headsL, *, aloneB]
  rw [eq]
  clear eq
  go_enter Try.func42, Try.ntmps42
  go_wp2_with (first
    | (go_at_call 94; refine (wide_any _ _).mono ?_; rintro e w' ⟨rfl, rfl⟩)
    | (go_at_call 96; refine (num_any _ (by omega) (by omega) _).mono ?_; rintro e w' ⟨rfl, rfl⟩)
    | (go_at_call 98; refine (mem_any _ _ (by omega) (by omega) (by omega) (by omega) _).mono ?_; rintro e w' ⟨rfl, rfl⟩)
    | (go_at_call 95; refine (rm_any _ _ (by omega) (by omega) (by omega) (by omega) _).mono ?_; rintro e w' ⟨rfl, rfl⟩)
    | (go_at_call 71; refine (of_any _ _ _ _ _).mono ?_; rintro e w1 ⟨rfl, hb⟩; have k := res2 hb; obtain ⟨hc, hf⟩ := bcell hb))
  all_goals
    refine bodyPost_ret ?_ rfl (head_none (balloc (Below.refl _ _) _))
    simp [results, Try.results42, go_sem]

set_option maxRecDepth 100000 in
set_option maxHeartbeats 2000000 in
theorem heads_22   (w : World) :
    Calls Try.prog 42 #[.int .i64 22, .int .i64 0, .int .i64 0] w (HeadIs w (headsL 22 0 0)) := by
  have eq : headsL 22 0 0 = ([39], 0) := by simp [headsL, aloneB]
  rw [eq]
  clear eq
  obtain ⟨c1, c2, c3, c4, c5, c6, c7, c8⟩ := near_consts
  go_enter Try.func42, Try.ntmps42
  go_wp2_with (first
    | (go_at_call 94; refine (wide_any _ _).mono ?_; rintro e w' ⟨rfl, rfl⟩)
    | (go_at_call 96; refine (num_any _ (by omega) (by omega) _).mono ?_; rintro e w' ⟨rfl, rfl⟩)
    | (go_at_call 98; refine (mem_any _ _ (by omega) (by omega) (by omega) (by omega) _).mono ?_; rintro e w' ⟨rfl, rfl⟩)
    | (go_at_call 95; refine (rm_any _ _ (by omega) (by omega) (by omega) (by omega) _).mono ?_; rintro e w' ⟨rfl, rfl⟩)
    | (go_at_call 71; refine (of_any _ _ _ _ _).mono ?_; rintro e w1 ⟨rfl, hb⟩; have k := res2 hb; obtain ⟨hc, hf⟩ := bcell hb))
  all_goals
    refine bodyPost_ret ?_ rfl (head_leaf1 hb)
    simp [results, Try.results42, go_sem, k]

set_option maxRecDepth 100000 in
set_option maxHeartbeats 2000000 in
theorem heads_22n (d : Int) (xd0 : ¬ d = 0) (w : World) :
    Calls Try.prog 42 #[.int .i64 22, .int .i64 d, .int .i64 0] w (HeadIs w (headsL 22 d 0)) := by
  have eq : headsL 22 d 0 = ([], 0) := by simp [headsL, *, aloneB]
  rw [eq]
  clear eq
  go_enter Try.func42, Try.ntmps42
  go_wp2_with (first
    | (go_at_call 94; refine (wide_any _ _).mono ?_; rintro e w' ⟨rfl, rfl⟩)
    | (go_at_call 96; refine (num_any _ (by omega) (by omega) _).mono ?_; rintro e w' ⟨rfl, rfl⟩)
    | (go_at_call 98; refine (mem_any _ _ (by omega) (by omega) (by omega) (by omega) _).mono ?_; rintro e w' ⟨rfl, rfl⟩)
    | (go_at_call 95; refine (rm_any _ _ (by omega) (by omega) (by omega) (by omega) _).mono ?_; rintro e w' ⟨rfl, rfl⟩)
    | (go_at_call 71; refine (of_any _ _ _ _ _).mono ?_; rintro e w1 ⟨rfl, hb⟩; have k := res2 hb; obtain ⟨hc, hf⟩ := bcell hb))
  all_goals
    refine bodyPost_ret ?_ rfl (head_none (balloc (Below.refl _ _) _))
    simp [results, Try.results42, go_sem]

set_option maxRecDepth 100000 in
set_option maxHeartbeats 2000000 in
theorem heads_23   (w : World) :
    Calls Try.prog 42 #[.int .i64 23, .int .i64 0, .int .i64 0] w (HeadIs w (headsL 23 0 0)) := by
  have eq : headsL 23 0 0 = ([245], 0) := by simp [headsL, aloneB]
  rw [eq]
  clear eq
  obtain ⟨c1, c2, c3, c4, c5, c6, c7, c8⟩ := near_consts
  go_enter Try.func42, Try.ntmps42
  go_wp2_with (first
    | (go_at_call 94; refine (wide_any _ _).mono ?_; rintro e w' ⟨rfl, rfl⟩)
    | (go_at_call 96; refine (num_any _ (by omega) (by omega) _).mono ?_; rintro e w' ⟨rfl, rfl⟩)
    | (go_at_call 98; refine (mem_any _ _ (by omega) (by omega) (by omega) (by omega) _).mono ?_; rintro e w' ⟨rfl, rfl⟩)
    | (go_at_call 95; refine (rm_any _ _ (by omega) (by omega) (by omega) (by omega) _).mono ?_; rintro e w' ⟨rfl, rfl⟩)
    | (go_at_call 71; refine (of_any _ _ _ _ _).mono ?_; rintro e w1 ⟨rfl, hb⟩; have k := res2 hb; obtain ⟨hc, hf⟩ := bcell hb))
  all_goals
    refine bodyPost_ret ?_ rfl (head_leaf1 hb)
    simp [results, Try.results42, go_sem, k]

set_option maxRecDepth 100000 in
set_option maxHeartbeats 2000000 in
theorem heads_23n (d : Int) (xd0 : ¬ d = 0) (w : World) :
    Calls Try.prog 42 #[.int .i64 23, .int .i64 d, .int .i64 0] w (HeadIs w (headsL 23 d 0)) := by
  have eq : headsL 23 d 0 = ([], 0) := by simp [headsL, *, aloneB]
  rw [eq]
  clear eq
  go_enter Try.func42, Try.ntmps42
  go_wp2_with (first
    | (go_at_call 94; refine (wide_any _ _).mono ?_; rintro e w' ⟨rfl, rfl⟩)
    | (go_at_call 96; refine (num_any _ (by omega) (by omega) _).mono ?_; rintro e w' ⟨rfl, rfl⟩)
    | (go_at_call 98; refine (mem_any _ _ (by omega) (by omega) (by omega) (by omega) _).mono ?_; rintro e w' ⟨rfl, rfl⟩)
    | (go_at_call 95; refine (rm_any _ _ (by omega) (by omega) (by omega) (by omega) _).mono ?_; rintro e w' ⟨rfl, rfl⟩)
    | (go_at_call 71; refine (of_any _ _ _ _ _).mono ?_; rintro e w1 ⟨rfl, hb⟩; have k := res2 hb; obtain ⟨hc, hf⟩ := bcell hb))
  all_goals
    refine bodyPost_ret ?_ rfl (head_none (balloc (Below.refl _ _) _))
    simp [results, Try.results42, go_sem]

set_option maxRecDepth 100000 in
set_option maxHeartbeats 2000000 in
theorem heads_24   (w : World) :
    Calls Try.prog 42 #[.int .i64 24, .int .i64 0, .int .i64 0] w (HeadIs w (headsL 24 0 0)) := by
  have eq : headsL 24 0 0 = ([249], 0) := by simp [headsL, aloneB]
  rw [eq]
  clear eq
  obtain ⟨c1, c2, c3, c4, c5, c6, c7, c8⟩ := near_consts
  go_enter Try.func42, Try.ntmps42
  go_wp2_with (first
    | (go_at_call 94; refine (wide_any _ _).mono ?_; rintro e w' ⟨rfl, rfl⟩)
    | (go_at_call 96; refine (num_any _ (by omega) (by omega) _).mono ?_; rintro e w' ⟨rfl, rfl⟩)
    | (go_at_call 98; refine (mem_any _ _ (by omega) (by omega) (by omega) (by omega) _).mono ?_; rintro e w' ⟨rfl, rfl⟩)
    | (go_at_call 95; refine (rm_any _ _ (by omega) (by omega) (by omega) (by omega) _).mono ?_; rintro e w' ⟨rfl, rfl⟩)
    | (go_at_call 71; refine (of_any _ _ _ _ _).mono ?_; rintro e w1 ⟨rfl, hb⟩; have k := res2 hb; obtain ⟨hc, hf⟩ := bcell hb))
  all_goals
    refine bodyPost_ret ?_ rfl (head_leaf1 hb)
    simp [results, Try.results42, go_sem, k]

set_option maxRecDepth 100000 in
set_option maxHeartbeats 2000000 in
theorem heads_24n (d : Int) (xd0 : ¬ d = 0) (w : World) :
    Calls Try.prog 42 #[.int .i64 24, .int .i64 d, .int .i64 0] w (HeadIs w (headsL 24 d 0)) := by
  have eq : headsL 24 d 0 = ([], 0) := by simp [headsL, *, aloneB]
  rw [eq]
  clear eq
  go_enter Try.func42, Try.ntmps42
  go_wp2_with (first
    | (go_at_call 94; refine (wide_any _ _).mono ?_; rintro e w' ⟨rfl, rfl⟩)
    | (go_at_call 96; refine (num_any _ (by omega) (by omega) _).mono ?_; rintro e w' ⟨rfl, rfl⟩)
    | (go_at_call 98; refine (mem_any _ _ (by omega) (by omega) (by omega) (by omega) _).mono ?_; rintro e w' ⟨rfl, rfl⟩)
    | (go_at_call 95; refine (rm_any _ _ (by omega) (by omega) (by omega) (by omega) _).mono ?_; rintro e w' ⟨rfl, rfl⟩)
    | (go_at_call 71; refine (of_any _ _ _ _ _).mono ?_; rintro e w1 ⟨rfl, hb⟩; have k := res2 hb; obtain ⟨hc, hf⟩ := bcell hb))
  all_goals
    refine bodyPost_ret ?_ rfl (head_none (balloc (Below.refl _ _) _))
    simp [results, Try.results42, go_sem]

set_option maxRecDepth 100000 in
set_option maxHeartbeats 2000000 in
theorem heads_25   (w : World) :
    Calls Try.prog 42 #[.int .i64 25, .int .i64 0, .int .i64 0] w (HeadIs w (headsL 25 0 0)) := by
  have eq : headsL 25 0 0 = ([248], 0) := by simp [headsL, aloneB]
  rw [eq]
  clear eq
  obtain ⟨c1, c2, c3, c4, c5, c6, c7, c8⟩ := near_consts
  go_enter Try.func42, Try.ntmps42
  go_wp2_with (first
    | (go_at_call 94; refine (wide_any _ _).mono ?_; rintro e w' ⟨rfl, rfl⟩)
    | (go_at_call 96; refine (num_any _ (by omega) (by omega) _).mono ?_; rintro e w' ⟨rfl, rfl⟩)
    | (go_at_call 98; refine (mem_any _ _ (by omega) (by omega) (by omega) (by omega) _).mono ?_; rintro e w' ⟨rfl, rfl⟩)
    | (go_at_call 95; refine (rm_any _ _ (by omega) (by omega) (by omega) (by omega) _).mono ?_; rintro e w' ⟨rfl, rfl⟩)
    | (go_at_call 71; refine (of_any _ _ _ _ _).mono ?_; rintro e w1 ⟨rfl, hb⟩; have k := res2 hb; obtain ⟨hc, hf⟩ := bcell hb))
  all_goals
    refine bodyPost_ret ?_ rfl (head_leaf1 hb)
    simp [results, Try.results42, go_sem, k]

set_option maxRecDepth 100000 in
set_option maxHeartbeats 2000000 in
theorem heads_25n (d : Int) (xd0 : ¬ d = 0) (w : World) :
    Calls Try.prog 42 #[.int .i64 25, .int .i64 d, .int .i64 0] w (HeadIs w (headsL 25 d 0)) := by
  have eq : headsL 25 d 0 = ([], 0) := by simp [headsL, *, aloneB]
  rw [eq]
  clear eq
  go_enter Try.func42, Try.ntmps42
  go_wp2_with (first
    | (go_at_call 94; refine (wide_any _ _).mono ?_; rintro e w' ⟨rfl, rfl⟩)
    | (go_at_call 96; refine (num_any _ (by omega) (by omega) _).mono ?_; rintro e w' ⟨rfl, rfl⟩)
    | (go_at_call 98; refine (mem_any _ _ (by omega) (by omega) (by omega) (by omega) _).mono ?_; rintro e w' ⟨rfl, rfl⟩)
    | (go_at_call 95; refine (rm_any _ _ (by omega) (by omega) (by omega) (by omega) _).mono ?_; rintro e w' ⟨rfl, rfl⟩)
    | (go_at_call 71; refine (of_any _ _ _ _ _).mono ?_; rintro e w1 ⟨rfl, hb⟩; have k := res2 hb; obtain ⟨hc, hf⟩ := bcell hb))
  all_goals
    refine bodyPost_ret ?_ rfl (head_none (balloc (Below.refl _ _) _))
    simp [results, Try.results42, go_sem]

set_option maxRecDepth 100000 in
set_option maxHeartbeats 2000000 in
theorem heads_26   (w : World) :
    Calls Try.prog 42 #[.int .i64 26, .int .i64 0, .int .i64 0] w (HeadIs w (headsL 26 0 0)) := by
  have eq : headsL 26 0 0 = ([251], 0) := by simp [headsL, aloneB]
  rw [eq]
  clear eq
  obtain ⟨c1, c2, c3, c4, c5, c6, c7, c8⟩ := near_consts
  go_enter Try.func42, Try.ntmps42
  go_wp2_with (first
    | (go_at_call 94; refine (wide_any _ _).mono ?_; rintro e w' ⟨rfl, rfl⟩)
    | (go_at_call 96; refine (num_any _ (by omega) (by omega) _).mono ?_; rintro e w' ⟨rfl, rfl⟩)
    | (go_at_call 98; refine (mem_any _ _ (by omega) (by omega) (by omega) (by omega) _).mono ?_; rintro e w' ⟨rfl, rfl⟩)
    | (go_at_call 95; refine (rm_any _ _ (by omega) (by omega) (by omega) (by omega) _).mono ?_; rintro e w' ⟨rfl, rfl⟩)
    | (go_at_call 71; refine (of_any _ _ _ _ _).mono ?_; rintro e w1 ⟨rfl, hb⟩; have k := res2 hb; obtain ⟨hc, hf⟩ := bcell hb))
  all_goals
    refine bodyPost_ret ?_ rfl (head_leaf1 hb)
    simp [results, Try.results42, go_sem, k]

set_option maxRecDepth 100000 in
set_option maxHeartbeats 2000000 in
theorem heads_26n (d : Int) (xd0 : ¬ d = 0) (w : World) :
    Calls Try.prog 42 #[.int .i64 26, .int .i64 d, .int .i64 0] w (HeadIs w (headsL 26 d 0)) := by
  have eq : headsL 26 d 0 = ([], 0) := by simp [headsL, *, aloneB]
  rw [eq]
  clear eq
  go_enter Try.func42, Try.ntmps42
  go_wp2_with (first
    | (go_at_call 94; refine (wide_any _ _).mono ?_; rintro e w' ⟨rfl, rfl⟩)
    | (go_at_call 96; refine (num_any _ (by omega) (by omega) _).mono ?_; rintro e w' ⟨rfl, rfl⟩)
    | (go_at_call 98; refine (mem_any _ _ (by omega) (by omega) (by omega) (by omega) _).mono ?_; rintro e w' ⟨rfl, rfl⟩)
    | (go_at_call 95; refine (rm_any _ _ (by omega) (by omega) (by omega) (by omega) _).mono ?_; rintro e w' ⟨rfl, rfl⟩)
    | (go_at_call 71; refine (of_any _ _ _ _ _).mono ?_; rintro e w1 ⟨rfl, hb⟩; have k := res2 hb; obtain ⟨hc, hf⟩ := bcell hb))
  all_goals
    refine bodyPost_ret ?_ rfl (head_none (balloc (Below.refl _ _) _))
    simp [results, Try.results42, go_sem]

set_option maxRecDepth 100000 in
set_option maxHeartbeats 2000000 in
theorem heads_27   (w : World) :
    Calls Try.prog 42 #[.int .i64 27, .int .i64 0, .int .i64 0] w (HeadIs w (headsL 27 0 0)) := by
  have eq : headsL 27 0 0 = ([250], 0) := by simp [headsL, aloneB]
  rw [eq]
  clear eq
  obtain ⟨c1, c2, c3, c4, c5, c6, c7, c8⟩ := near_consts
  go_enter Try.func42, Try.ntmps42
  go_wp2_with (first
    | (go_at_call 94; refine (wide_any _ _).mono ?_; rintro e w' ⟨rfl, rfl⟩)
    | (go_at_call 96; refine (num_any _ (by omega) (by omega) _).mono ?_; rintro e w' ⟨rfl, rfl⟩)
    | (go_at_call 98; refine (mem_any _ _ (by omega) (by omega) (by omega) (by omega) _).mono ?_; rintro e w' ⟨rfl, rfl⟩)
    | (go_at_call 95; refine (rm_any _ _ (by omega) (by omega) (by omega) (by omega) _).mono ?_; rintro e w' ⟨rfl, rfl⟩)
    | (go_at_call 71; refine (of_any _ _ _ _ _).mono ?_; rintro e w1 ⟨rfl, hb⟩; have k := res2 hb; obtain ⟨hc, hf⟩ := bcell hb))
  all_goals
    refine bodyPost_ret ?_ rfl (head_leaf1 hb)
    simp [results, Try.results42, go_sem, k]

set_option maxRecDepth 100000 in
set_option maxHeartbeats 2000000 in
theorem heads_27n (d : Int) (xd0 : ¬ d = 0) (w : World) :
    Calls Try.prog 42 #[.int .i64 27, .int .i64 d, .int .i64 0] w (HeadIs w (headsL 27 d 0)) := by
  have eq : headsL 27 d 0 = ([], 0) := by simp [headsL, *, aloneB]
  rw [eq]
  clear eq
  go_enter Try.func42, Try.ntmps42
  go_wp2_with (first
    | (go_at_call 94; refine (wide_any _ _).mono ?_; rintro e w' ⟨rfl, rfl⟩)
    | (go_at_call 96; refine (num_any _ (by omega) (by omega) _).mono ?_; rintro e w' ⟨rfl, rfl⟩)
    | (go_at_call 98; refine (mem_any _ _ (by omega) (by omega) (by omega) (by omega) _).mono ?_; rintro e w' ⟨rfl, rfl⟩)
    | (go_at_call 95; refine (rm_any _ _ (by omega) (by omega) (by omega) (by omega) _).mono ?_; rintro e w' ⟨rfl, rfl⟩)
    | (go_at_call 71; refine (of_any _ _ _ _ _).mono ?_; rintro e w1 ⟨rfl, hb⟩; have k := res2 hb; obtain ⟨hc, hf⟩ := bcell hb))
  all_goals
    refine bodyPost_ret ?_ rfl (head_none (balloc (Below.refl _ _) _))
    simp [results, Try.results42, go_sem]

set_option maxRecDepth 100000 in
set_option maxHeartbeats 2000000 in
theorem heads_28   (w : World) :
    Calls Try.prog 42 #[.int .i64 28, .int .i64 0, .int .i64 0] w (HeadIs w (headsL 28 0 0)) := by
  have eq : headsL 28 0 0 = ([244], 0) := by simp [headsL, aloneB]
  rw [eq]
  clear eq
  obtain ⟨c1, c2, c3, c4, c5, c6, c7, c8⟩ := near_consts
  go_enter Try.func42, Try.ntmps42
  go_wp2_with (first
    | (go_at_call 94; refine (wide_any _ _).mono ?_; rintro e w' ⟨rfl, rfl⟩)
    | (go_at_call 96; refine (num_any _ (by omega) (by omega) _).mono ?_; rintro e w' ⟨rfl, rfl⟩)
    | (go_at_call 98; refine (mem_any _ _ (by omega) (by omega) (by omega) (by omega) _).mono ?_; rintro e w' ⟨rfl, rfl⟩)
    | (go_at_call 95; refine (rm_any _ _ (by omega) (by omega) (by omega) (by omega) _).mono ?_; rintro e w' ⟨rfl, rfl⟩)
    | (go_at_call 71; refine (of_any _ _ _ _ _).mono ?_; rintro e w1 ⟨rfl, hb⟩; have k := res2 hb; obtain ⟨hc, hf⟩ := bcell hb))
  all_goals
    refine bodyPost_ret ?_ rfl (head_leaf1 hb)
    simp [results, Try.results42, go_sem, k]

set_option maxRecDepth 100000 in
set_option maxHeartbeats 2000000 in
theorem heads_28n (d : Int) (xd0 : ¬ d = 0) (w : World) :
    Calls Try.prog 42 #[.int .i64 28, .int .i64 d, .int .i64 0] w (HeadIs w (headsL 28 d 0)) := by
  have eq : headsL 28 d 0 = ([], 0) := by simp [headsL, *, aloneB]
  rw [eq]
  clear eq
  go_enter Try.func42, Try.ntmps42
  go_wp2_with (first
    | (go_at_call 94; refine (wide_any _ _).mono ?_; rintro e w' ⟨rfl, rfl⟩)
    | (go_at_call 96; refine (num_any _ (by omega) (by omega) _).mono ?_; rintro e w' ⟨rfl, rfl⟩)
    | (go_at_call 98; refine (mem_any _ _ (by omega) (by omega) (by omega) (by omega) _).mono ?_; rintro e w' ⟨rfl, rfl⟩)
    | (go_at_call 95; refine (rm_any _ _ (by omega) (by omega) (by omega) (by omega) _).mono ?_; rintro e w' ⟨rfl, rfl⟩)
    | (go_at_call 71; refine (of_any _ _ _ _ _).mono ?_; rintro e w1 ⟨rfl, hb⟩; have k := res2 hb; obtain ⟨hc, hf⟩ := bcell hb))
  all_goals
    refine bodyPost_ret ?_ rfl (head_none (balloc (Below.refl _ _) _))
    simp [results, Try.results42, go_sem]

set_option maxRecDepth 100000 in
set_option maxHeartbeats 2000000 in
theorem heads_29   (w : World) :
    Calls Try.prog 42 #[.int .i64 29, .int .i64 0, .int .i64 0] w (HeadIs w (headsL 29 0 0)) := by
  have eq : headsL 29 0 0 = ([144], 0) := by simp [headsL, aloneB]
  rw [eq]
  clear eq
  obtain ⟨c1, c2, c3, c4, c5, c6, c7, c8⟩ := near_consts
  go_enter Try.func42, Try.ntmps42
  go_wp2_with (first
    | (go_at_call 94; refine (wide_any _ _).mono ?_; rintro e w' ⟨rfl, rfl⟩)
    | (go_at_call 96; refine (num_any _ (by omega) (by omega) _).mono ?_; rintro e w' ⟨rfl, rfl⟩)
    | (go_at_call 98; refine (mem_any _ _ (by omega) (by omega) (by omega) (by omega) _).mono ?_; rintro e w' ⟨rfl, rfl⟩)
    | (go_at_call 95; refine (rm_any _ _ (by omega) (by omega) (by omega) (by omega) _).mono ?_; rintro e w' ⟨rfl, rfl⟩)
    | (go_at_call 71; refine (of_any _ _ _ _ _).mono ?_; rintro e w1 ⟨rfl, hb⟩; have k := res2 hb; obtain ⟨hc, hf⟩ := bcell hb))
  all_goals
    refine bodyPost_ret ?_ rfl (head_leaf1 hb)
    simp [results, Try.results42, go_sem, k]

set_option maxRecDepth 100000 in
set_option maxHeartbeats 2000000 in
theorem heads_29n (d : Int) (xd0 : ¬ d = 0) (w : World) :
    Calls Try.prog 42 #[.int .i64 29, .int .i64 d, .int .i64 0] w (HeadIs w (headsL 29 d 0)) := by
  have eq : headsL 29 d 0 = ([], 0) := by simp [headsL, *, aloneB]
  rw [eq]
  clear eq
  go_enter Try.func42, Try.ntmps42
  go_wp2_with (first
    | (go_at_call 94; refine (wide_any _ _).mono ?_; rintro e w' ⟨rfl, rfl⟩)
    | (go_at_call 96; refine (num_any _ (by omega) (by omega) _).mono ?_; rintro e w' ⟨rfl, rfl⟩)
    | (go_at_call 98; refine (mem_any _ _ (by omega) (by omega) (by omega) (by omega) _).mono ?_; rintro e w' ⟨rfl, rfl⟩)
    | (go_at_call 95; refine (rm_any _ _ (by omega) (by omega) (by omega) (by omega) _).mono ?_; rintro e w' ⟨rfl, rfl⟩)
    | (go_at_call 71; refine (of_any _ _ _ _ _).mono ?_; rintro e w1 ⟨rfl, hb⟩; have k := res2 hb; obtain ⟨hc, hf⟩ := bcell hb))
  all_goals
    refine bodyPost_ret ?_ rfl (head_none (balloc (Below.refl _ _) _))
    simp [results, Try.results42, go_sem]

set_option maxRecDepth 100000 in
set_option maxHeartbeats 2000000 in
theorem heads_32   (w : World) :
    Calls Try.prog 42 #[.int .i64 32, .int .i64 20, .int .i64 0] w (HeadIs w (headsL 32 20 0)) := by
  have eq : headsL 32 20 0 = ([233], 2) := by simp [headsL, aloneB]
  rw [eq]
  clear eq
  obtain ⟨c1, c2, c3, c4, c5, c6, c7, c8⟩ := near_consts
  go_enter Try.func42, Try.ntmps42
  go_wp2_with (first
    | (go_at_call 94; refine (wide_any _ _).mono ?_; rintro e w' ⟨rfl, rfl⟩)
    | (go_at_call 96; refine (num_any _ (by omega) (by omega) _).mono ?_; rintro e w' ⟨rfl, rfl⟩)
    | (go_at_call 98; refine (mem_any _ _ (by omega) (by omega) (by omega) (by omega) _).mono ?_; rintro e w' ⟨rfl, rfl⟩)
    | (go_at_call 95; refine (rm_any _ _ (by omega) (by omega) (by omega) (by omega) _).mono ?_; rintro e w' ⟨rfl, rfl⟩)
    | (go_at_call 71; refine (of_any _ _ _ _ _).mono ?_; rintro e w1 ⟨rfl, hb⟩; have k := res2 hb; obtain ⟨hc, hf⟩ := bcell hb))
  all_goals
    refine bodyPost_ret ?_ rfl (head_leaf1 hb)
    simp [results, Try.results42, go_sem, k]

set_option maxRecDepth 100000 in
set_option maxHeartbeats 2000000 in
theorem heads_32n (d : Int) (xd20 : ¬ d = 20) (w : World) :
    Calls Try.prog 42 #[.int .i64 32, .int .i64 d, .int .i64 0] w (HeadIs w (headsL 32 d 0)) := by
  have eq : headsL 32 d 0 = ([], 0) := by simp [headsL, *, aloneB]
  rw [eq]
  clear eq
  go_enter Try.func42, Try.ntmps42
  go_wp2_with (first
    | (go_at_call 94; refine (wide_any _ _).mono ?_; rintro e w' ⟨rfl, rfl⟩)
    | (go_at_call 96; refine (num_any _ (by omega) (by omega) _).mono ?_; rintro e w' ⟨rfl, rfl⟩)
    | (go_at_call 98; refine (mem_any _ _ (by omega) (by omega) (by omega) (by omega) _).mono ?_; rintro e w' ⟨rfl, rfl⟩)
    | (go_at_call 95; refine (rm_any _ _ (by omega) (by omega) (by omega) (by omega) _).mono ?_; rintro e w' ⟨rfl, rfl⟩)
    | (go_at_call 71; refine (of_any _ _ _ _ _).mono ?_; rintro e w1 ⟨rfl, hb⟩; have k := res2 hb; obtain ⟨hc, hf⟩ := bcell hb))
  all_goals
    refine bodyPost_ret ?_ rfl (head_none (balloc (Below.refl _ _) _))
    simp [results, Try.results42, go_sem]

set_option maxRecDepth 100000 in
set_option maxHeartbeats 2000000 in
theorem heads_33   (w : World) :
    Calls Try.prog 42 #[.int .i64 33, .int .i64 20, .int .i64 0] w (HeadIs w (headsL 33 20 0)) := by
  have eq : headsL 33 20 0 = ([235], 3) := by simp [headsL, aloneB]
  rw [eq]
  clear eq
  obtain ⟨c1, c2, c3, c4, c5, c6, c7, c8⟩ := near_consts
  go_enter Try.func42, Try.ntmps42
  go_wp2_with (first
    | (go_at_call 94; refine (wide_any _ _).mono ?_; rintro e w' ⟨rfl, rfl⟩)
    | (go_at_call 96; refine (num_any _ (by omega) (by omega) _).mono ?_; rintro e w' ⟨rfl, rfl⟩)
    | (go_at_call 98; refine (mem_any _ _ (by omega) (by omega) (by omega) (by omega) _).mono ?_; rintro e w' ⟨rfl, rfl⟩)
    | (go_at_call 95; refine (rm_any _ _ (by omega) (by omega) (by omega) (by omega) _).mono ?_; rintro e w' ⟨rfl, rfl⟩)
    | (go_at_call 71; refine (of_any _ _ _ _ _).mono ?_; rintro e w1 ⟨rfl, hb⟩; have k := res2 hb; obtain ⟨hc, hf⟩ := bcell hb))
  all_goals
    refine bodyPost_ret ?_ rfl (head_leaf1 hb)
    simp [results, Try.results42, go_sem, k]

set_option maxRecDepth 100000 in
set_option maxHeartbeats 2000000 in
theorem heads_33n (d : Int) (xd20 : ¬ d = 20) (w : World) :
    Calls Try.prog 42 #[.int .i64 33, .int .i64 d, .int .i64 0] w (HeadIs w (headsL 33 d 0)) := by
  have eq : headsL 33 d 0 = ([], 0) := by simp [headsL, *, aloneB]
  rw [eq]
  clear eq
  go_enter Try.func42, Try.ntmps42
  go_wp2_with (first
    | (go_at_call 94; refine (wide_any _ _).mono ?_; rintro e w' ⟨rfl, rfl⟩)
    | (go_at_call 96; refine (num_any _ (by omega) (by omega) _).mono ?_; rintro e w' ⟨rfl, rfl⟩)
    | (go_at_call 98; refine (mem_any _ _ (by omega) (by omega) (by omega) (by omega) _).mono ?_; rintro e w' ⟨rfl, rfl⟩)
    | (go_at_call 95; refine (rm_any _ _ (by omega) (by omega) (by omega) (by omega) _).mono ?_; rintro e w' ⟨rfl, rfl⟩)
    | (go_at_call 71; refine (of_any _ _ _ _ _).mono ?_; rintro e w1 ⟨rfl, hb⟩; have k := res2 hb; obtain ⟨hc, hf⟩ := bcell hb))
  all_goals
    refine bodyPost_ret ?_ rfl (head_none (balloc (Below.refl _ _) _))
    simp [results, Try.results42, go_sem]

set_option maxRecDepth 100000 in
set_option maxHeartbeats 2000000 in
theorem heads_34   (w : World) :
    Calls Try.prog 42 #[.int .i64 34, .int .i64 20, .int .i64 0] w (HeadIs w (headsL 34 20 0)) := by
  have eq : headsL 34 20 0 = ([232], 2) := by simp [headsL, aloneB]
  rw [eq]
  clear eq
  obtain ⟨c1, c2, c3, c4, c5, c6, c7, c8⟩ := near_consts
  go_enter Try.func42, Try.ntmps42
  go_wp2_with (first
    | (go_at_call 94; refine (wide_any _ _).mono ?_; rintro e w' ⟨rfl, rfl⟩)
    | (go_at_call 96; refine (num_any _ (by omega) (by omega) _).mono ?_; rintro e w' ⟨rfl, rfl⟩)
    | (go_at_call 98; refine (mem_any _ _ (by omega) (by omega) (by omega) (by omega) _).mono ?_; rintro e w' ⟨rfl, rfl⟩)
    | (go_at_call 95; refine (rm_any _ _ (by omega) (by omega) (by omega) (by omega) _).mono ?_; rintro e w' ⟨rfl, rfl⟩)
    | (go_at_call 71; refine (of_any _ _ _ _ _).mono ?_; rintro e w1 ⟨rfl, hb⟩; have k := res2 hb; obtain ⟨hc, hf⟩ := bcell hb))
  all_goals
    refine bodyPost_ret ?_ rfl (head_leaf1 hb)
    simp [results, Try.results42, go_sem, k]

set_option maxRecDepth 100000 in
set_option maxHeartbeats 2000000 in
theorem heads_34n (d : Int) (xd20 : ¬ d = 20) (w : World) :
    Calls Try.prog 42 #[.int .i64 34, .int .i64 d, .int .i64 0] w (HeadIs w (headsL 34 d 0)) := by
  have eq : headsL 34 d 0 = ([], 0) := by simp [headsL, *, aloneB]
  rw [eq]
  clear eq
  go_enter Try.func42, Try.ntmps42
  go_wp2_with (first
    | (go_at_call 94; refine (wide_any _ _).mono ?_; rintro e w' ⟨rfl, rfl⟩)
    | (go_at_call 96; refine (num_any _ (by omega) (by omega) _).mono ?_; rintro e w' ⟨rfl, rfl⟩)
    | (go_at_call 98; refine (mem_any _ _ (by omega) (by omega) (by omega) (by omega) _).mono ?_; rintro e w' ⟨rfl, rfl⟩)
    | (go_at_call 95; refine (rm_any _ _ (by omega) (by omega) (by omega) (by omega) _).mono ?_; rintro e w' ⟨rfl, rfl⟩)
    | (go_at_call 71; refine (of_any _ _ _ _ _).mono ?_; rintro e w1 ⟨rfl, hb⟩; have k := res2 hb; obtain ⟨hc, hf⟩ := bcell hb))
  all_goals
    refine bodyPost_ret ?_ rfl (head_none (balloc (Below.refl _ _) _))
    simp [results, Try.results42, go_sem]

set_option maxRecDepth 100000 in
set_option maxHeartbeats 2000000 in
theorem heads_35   (w : World) :
    Calls Try.prog 42 #[.int .i64 35, .int .i64 0, .int .i64 0] w (HeadIs w (headsL 35 0 0)) := by
  have eq : headsL 35 0 0 = ([195], 0) := by simp [headsL, aloneB]
  rw [eq]
  clear eq
  obtain ⟨c1, c2, c3, c4, c5, c6, c7, c8⟩ := near_consts
  go_enter Try.func42, Try.ntmps42
  go_wp2_with (first
    | (go_at_call 94; refine (wide_any _ _).mono ?_; rintro e w' ⟨rfl, rfl⟩)
    | (go_at_call 96; refine (num_any _ (by omega) (by omega) _).mono ?_; rintro e w' ⟨rfl, rfl⟩)
    | (go_at_call 98; refine (mem_any _ _ (by omega) (by omega) (by omega) (by omega) _).mono ?_; rintro e w' ⟨rfl, rfl⟩)
    | (go_at_call 95; refine (rm_any _ _ (by omega) (by omega) (by omega) (by omega) _).mono ?_; rintro e w' ⟨rfl, rfl⟩)
    | (go_at_call 71; refine (of_any _ _ _ _ _).mono ?_; rintro e w1 ⟨rfl, hb⟩; have k := res2 hb; obtain ⟨hc, hf⟩ := bcell hb))
  all_goals
    refine bodyPost_ret ?_ rfl (head_leaf1 hb)
    simp [results, Try.results42, go_sem, k]

set_option maxRecDepth 100000 in
set_option maxHeartbeats 2000000 in
theorem heads_35n (d : Int) (xd0 : ¬ d = 0) (w : World) :
    Calls Try.prog 42 #[.int .i64 35, .int .i64 d, .int .i64 0] w (HeadIs w (headsL 35 d 0)) := by
  have eq : headsL 35 d 0 = ([], 0) := by simp [headsL, *, aloneB]
  rw [eq]
  clear eq
  go_enter Try.func42, Try.ntmps42
  go_wp2_with (first
    | (go_at_call 94; refine (wide_any _ _).mono ?_; rintro e w' ⟨rfl, rfl⟩)
    | (go_at_call 96; refine (num_any _ (by omega) (by omega) _).mono ?_; rintro e w' ⟨rfl, rfl⟩)
    | (go_at_call 98; refine (mem_any _ _ (by omega) (by omega) (by omega) (by omega) _).mono ?_; rintro e w' ⟨rfl, rfl⟩)
    | (go_at_call 95; refine (rm_any _ _ (by omega) (by omega) (by omega) (by omega) _).mono ?_; rintro e w' ⟨rfl, rfl⟩)
    | (go_at_call 71; refine (of_any _ _ _ _ _).mono ?_; rintro e w1 ⟨rfl, hb⟩; have k := res2 hb; obtain ⟨hc, hf⟩ := bcell hb))
  all_goals
    refine bodyPost_ret ?_ rfl (head_none (balloc (Below.refl _ _) _))
    simp [results, Try.results42, go_sem]

set_option maxRecDepth 100000 in
set_option maxHeartbeats 2000000 in
theorem heads_42   (w : World) :
    Calls Try.prog 42 #[.int .i64 42, .int .i64 20, .int .i64 0] w (HeadIs w (headsL 42 20 0)) := by
  have eq : headsL 42 20 0 = ([114], 3) := by simp [headsL, aloneB]
  rw [eq]
  clear eq
  obtain ⟨c1, c2, c3, c4, c5, c6, c7, c8⟩ := near_consts
  go_enter Try.func42, Try.ntmps42
  go_wp2_with (first
    | (go_at_call 94; refine (wide_any _ _).mono ?_; rintro e w' ⟨rfl, rfl⟩)
    | (go_at_call 96; refine (num_any _ (by omega) (by omega) _).mono ?_; rintro e w' ⟨rfl, rfl⟩)
    | (go_at_call 98; refine (mem_any _ _ (by omega) (by omega) (by omega) (by omega) _).mono ?_; rintro e w' ⟨rfl, rfl⟩)
    | (go_at_call 95; refine (rm_any _ _ (by omega) (by omega) (by omega) (by omega) _).mono ?_; rintro e w' ⟨rfl, rfl⟩)
    | (go_at_call 71; refine (of_any _ _ _ _ _).mono ?_; rintro e w1 ⟨rfl, hb⟩; have k := res2 hb; obtain ⟨hc, hf⟩ := bcell hb))
  all_goals
    refine bodyPost_ret ?_ rfl (head_leaf1 hb)
    simp [results, Try.results42, go_sem, k]

set_option maxRecDepth 100000 in
set_option maxHeartbeats 2000000 in
theorem heads_42n (d : Int) (xd20 : ¬ d = 20) (w : World) :
    Calls Try.prog 42 #[.int .i64 42, .int .i64 d, .int .i64 0] w (HeadIs w (headsL 42 d 0)) := by
  have eq : headsL 42 d 0 = ([], 0) := by simp [headsL, *, aloneB]
  rw [eq]
  clear eq
  go_enter Try.func42, Try.ntmps42
  go_wp2_with (first
    | (go_at_call 94; refine (wide_any _ _).mono ?_; rintro e w' ⟨rfl, rfl⟩)
    | (go_at_call 96; refine (num_any _ (by omega) (by omega) _).mono ?_; rintro e w' ⟨rfl, rfl⟩)
    | (go_at_call 98; refine (mem_any _ _ (by omega) (by omega) (by omega) (by omega) _).mono ?_; rintro e w' ⟨rfl, rfl⟩)
    | (go_at_call 95; refine (rm_any _ _ (by omega) (by omega) (by omega) (by omega) _).mono ?_; rintro e w' ⟨rfl, rfl⟩)
    | (go_at_call 71; refine (of_any _ _ _ _ _).mono ?_; rintro e w1 ⟨rfl, hb⟩; have k := res2 hb; obtain ⟨hc, hf⟩ := bcell hb))
  all_goals
    refine bodyPost_ret ?_ rfl (head_none (balloc (Below.refl _ _) _))
    simp [results, Try.results42, go_sem]

set_option maxRecDepth 100000 in
set_option maxHeartbeats 2000000 in
theorem heads_43   (w : World) :
    Calls Try.prog 42 #[.int .i64 43, .int .i64 20, .int .i64 0] w (HeadIs w (headsL 43 20 0)) := by
  have eq : headsL 43 20 0 = ([115], 3) := by simp [headsL, aloneB]
  rw [eq]
  clear eq
  obtain ⟨c1, c2, c3, c4, c5, c6, c7, c8⟩ := near_consts
  go_enter Try.func42, Try.ntmps42
  go_wp2_with (first
    | (go_at_call 94; refine (wide_any _ _).mono ?_; rintro e w' ⟨rfl, rfl⟩)
    | (go_at_call 96; refine (num_any _ (by omega) (by omega) _).mono ?_; rintro e w' ⟨rfl, rfl⟩)
    | (go_at_call 98; refine (mem_any _ _ (by omega) (by omega) (by omega) (by omega) _).mono ?_; rintro e w' ⟨rfl, rfl⟩)
    | (go_at_call 95; refine (rm_any _ _ (by omega) (by omega) (by omega) (by omega) _).mono ?_; rintro e w' ⟨rfl, rfl⟩)
    | (go_at_call 71; refine (of_any _ _ _ _ _).mono ?_; rintro e w1 ⟨rfl, hb⟩; have k := res2 hb; obtain ⟨hc, hf⟩ := bcell hb))
  all_goals
    refine bodyPost_ret ?_ rfl (head_leaf1 hb)
    simp [results, Try.results42, go_sem, k]

set_option maxRecDepth 100000 in
set_option maxHeartbeats 2000000 in
theorem heads_43n (d : Int) (xd20 : ¬ d = 20) (w : World) :
    Calls Try.prog 42 #[.int .i64 43, .int .i64 d, .int .i64 0] w (HeadIs w (headsL 43 d 0)) := by
  have eq : headsL 43 d 0 = ([], 0) := by simp [headsL, *, aloneB]
  rw [eq]
  clear eq
  go_enter Try.func42, Try.ntmps42
  go_wp2_with (first
    | (go_at_call 94; refine (wide_any _ _).mono ?_; rintro e w' ⟨rfl, rfl⟩)
    | (go_at_call 96; refine (num_any _ (by omega) (by omega) _).mono ?_; rintro e w' ⟨rfl, rfl⟩)
    | (go_at_call 98; refine (mem_any _ _ (by omega) (by omega) (by omega) (by omega) _).mono ?_; rintro e w' ⟨rfl, rfl⟩)
    | (go_at_call 95; refine (rm_any _ _ (by omega) (by omega) (by omega) (by omega) _).mono ?_; rintro e w' ⟨rfl, rfl⟩)
    | (go_at_call 71; refine (of_any _ _ _ _ _).mono ?_; rintro e w1 ⟨rfl, hb⟩; have k := res2 hb; obtain ⟨hc, hf⟩ := bcell hb))
  all_goals
    refine bodyPost_ret ?_ rfl (head_none (balloc (Below.refl _ _) _))
    simp [results, Try.results42, go_sem]

set_option maxRecDepth 100000 in
set_option maxHeartbeats 2000000 in
theorem heads_44   (w : World) :
    Calls Try.prog 42 #[.int .i64 44, .int .i64 20, .int .i64 0] w (HeadIs w (headsL 44 20 0)) := by
  have eq : headsL 44 20 0 = ([116], 3) := by simp [headsL, aloneB]
  rw [eq]
  clear eq
  obtain ⟨c1, c2, c3, c4, c5, c6, c7, c8⟩ := near_consts
  go_enter Try.func42, Try.ntmps42
  go_wp2_with (first
    | (go_at_call 94; refine (wide_any _ _).mono ?_; rintro e w' ⟨rfl, rfl⟩)
    | (go_at_call 96; refine (num_any _ (by omega) (by omega) _).mono ?_; rintro e w' ⟨rfl, rfl⟩)
    | (go_at_call 98; refine (mem_any _ _ (by omega) (by omega) (by omega) (by omega) _).mono ?_; rintro e w' ⟨rfl, rfl⟩)
    | (go_at_call 95; refine (rm_any _ _ (by omega) (by omega) (by omega) (by omega) _).mono ?_; rintro e w' ⟨rfl, rfl⟩)
    | (go_at_call 71; refine (of_any _ _ _ _ _).mono ?_; rintro e w1 ⟨rfl, hb⟩; have k := res2 hb; obtain ⟨hc, hf⟩ := bcell hb))
  all_goals
    refine bodyPost_ret ?_ rfl (head_leaf1 hb)
    simp [results, Try.results42, go_sem, k]

set_option maxRecDepth 100000 in
set_option maxHeartbeats 2000000 in
theorem heads_44n (d : Int) (xd20 : ¬ d = 20) (w : World) :
    Calls Try.prog 42 #[.int .i64 44, .int .i64 d, .int .i64 0] w (HeadIs w (headsL 44 d 0)) := by
  have eq : headsL 44 d 0 = ([], 0) := by simp [headsL, *, aloneB]
  rw [eq]
  clear eq
  go_enter Try.func42, Try.ntmps42
  go_wp2_with (first
    | (go_at_call 94; refine (wide_any _ _).mono ?_; rintro e w' ⟨rfl, rfl⟩)
    | (go_at_call 96; refine (num_any _ (by omega) (by omega) _).mono ?_; rintro e w' ⟨rfl, rfl⟩)
    | (go_at_call 98; refine (mem_any _ _ (by omega) (by omega) (by omega) (by omega) _).mono ?_; rintro e w' ⟨rfl, rfl⟩)
    | (go_at_call 95; refine (rm_any _ _ (by omega) (by omega) (by omega) (by omega) _).mono ?_; rintro e w' ⟨rfl, rfl⟩)
    | (go_at_call 71; refine (of_any _ _ _ _ _).mono ?_; rintro e w1 ⟨rfl, hb⟩; have k := res2 hb; obtain ⟨hc, hf⟩ := bcell hb))
  all_goals
    refine bodyPost_ret ?_ rfl (head_none (balloc (Below.refl _ _) _))
    simp [results, Try.results42, go_sem]

set_option maxRecDepth 100000 in
set_option maxHeartbeats 2000000 in
theorem heads_45   (w : World) :
    Calls Try.prog 42 #[.int .i64 45, .int .i64 20, .int .i64 0] w (HeadIs w (headsL 45 20 0)) := by
  have eq : headsL 45 20 0 = ([117], 3) := by simp [headsL, aloneB]
  rw [eq]
  clear eq
  obtain ⟨c1, c2, c3, c4, c5, c6, c7, c8⟩ := near_consts
  go_enter Try.func42, Try.ntmps42
  go_wp2_with (first
    | (go_at_call 94; refine (wide_any _ _).mono ?_; rintro e w' ⟨rfl, rfl⟩)
    | (go_at_call 96; refine (num_any _ (by omega) (by omega) _).mono ?_; rintro e w' ⟨rfl, rfl⟩)
    | (go_at_call 98; refine (mem_any _ _ (by omega) (by omega) (by omega) (by omega) _).mono ?_; rintro e w' ⟨rfl, rfl⟩)
    | (go_at_call 95; refine (rm_any _ _ (by omega) (by omega) (by omega) (by omega) _).mono ?_; rintro e w' ⟨rfl, rfl⟩)
    | (go_at_call 71; refine (of_any _ _ _ _ _).mono ?_; rintro e w1 ⟨rfl, hb⟩; have k := res2 hb; obtain ⟨hc, hf⟩ := bcell hb))
  all_goals
    refine bodyPost_ret ?_ rfl (head_leaf1 hb)
    simp [results, Try.results42, go_sem, k]

set_option maxRecDepth 100000 in
set_option maxHeartbeats 2000000 in
theorem heads_45n (d : Int) (xd20 : ¬ d = 20) (w : World) :
    Calls Try.prog 42 #[.int .i64 45, .int .i64 d, .int .i64 0] w (HeadIs w (headsL 45 d 0)) := by
  have eq : headsL 45 d 0 = ([], 0) := by simp [headsL, *, aloneB]
  rw [eq]
  clear eq
  go_enter Try.func42, Try.ntmps42
  go_wp2_with (first
    | (go_at_call 94; refine (wide_any _ _).mono ?_; rintro e w' ⟨rfl, rfl⟩)
    | (go_at_call 96; refine (num_any _ (by omega) (by omega) _).mono ?_; rintro e w' ⟨rfl, rfl⟩)
    | (go_at_call 98; refine (mem_any _ _ (by omega) (by omega) (by omega) (by omega) _).mono ?_; rintro e w' ⟨rfl, rfl⟩)
    | (go_at_call 95; refine (rm_any _ _ (by omega) (by omega) (by omega) (by omega) _).mono ?_; rintro e w' ⟨rfl, rfl⟩)
    | (go_at_call 71; refine (of_any _ _ _ _ _).mono ?_; rintro e w1 ⟨rfl, hb⟩; have k := res2 hb; obtain ⟨hc, hf⟩ := bcell hb))
  all_goals
    refine bodyPost_ret ?_ rfl (head_none (balloc (Below.refl _ _) _))
    simp [results, Try.results42, go_sem]

set_option maxRecDepth 100000 in
set_option maxHeartbeats 2000000 in
theorem heads_48   (w : World) :
    Calls Try.prog 42 #[.int .i64 48, .int .i64 20, .int .i64 0] w (HeadIs w (headsL 48 20 0)) := by
  have eq : headsL 48 20 0 = ([120], 3) := by simp [headsL, aloneB]
  rw [eq]
  clear eq
  obtain ⟨c1, c2, c3, c4, c5, c6, c7, c8⟩ := near_consts
  go_enter Try.func42, Try.ntmps42
  go_wp2_with (first
    | (go_at_call 94; refine (wide_any _ _).mono ?_; rintro e w' ⟨rfl, rfl⟩)
    | (go_at_call 96; refine (num_any _ (by omega) (by omega) _).mono ?_; rintro e w' ⟨rfl, rfl⟩)
    | (go_at_call 98; refine (mem_any _ _ (by omega) (by omega) (by omega) (by omega) _).mono ?_; rintro e w' ⟨rfl, rfl⟩)
    | (go_at_call 95; refine (rm_any _ _ (by omega) (by omega) (by omega) (by omega) _).mono ?_; rintro e w' ⟨rfl, rfl⟩)
    | (go_at_call 71; refine (of_any _ _ _ _ _).mono ?_; rintro e w1 ⟨rfl, hb⟩; have k := res2 hb; obtain ⟨hc, hf⟩ := bcell hb))
  all_goals
    refine bodyPost_ret ?_ rfl (head_leaf1 hb)
    simp [results, Try.results42, go_sem, k]

set_option maxRecDepth 100000 in
set_option maxHeartbeats 2000000 in
theorem heads_48n (d : Int) (xd20 : ¬ d = 20) (w : World) :
    Calls Try.prog 42 #[.int .i64 48, .int .i64 d, .int .i64 0] w (HeadIs w (headsL 48 d 0)) := by
  have eq : headsL 48 d 0 = ([], 0) := by simp [headsL, *, aloneB]
  rw [eq]
  clear eq
  go_enter Try.func42, Try.ntmps42
  go_wp2_with (first
    | (go_at_call 94; refine (wide_any _ _).mono ?_; rintro e w' ⟨rfl, rfl⟩)
    | (go_at_call 96; refine (num_any _ (by omega) (by omega) _).mono ?_; rintro e w' ⟨rfl, rfl⟩)
    | (go_at_call 98; refine (mem_any _ _ (by omega) (by omega) (by omega) (by omega) _).mono ?_; rintro e w' ⟨rfl, rfl⟩)
    | (go_at_call 95; refine (rm_any _ _ (by omega) (by omega) (by omega) (by omega) _).mono ?_; rintro e w' ⟨rfl, rfl⟩)
    | (go_at_call 71; refine (of_any _ _ _ _ _).mono ?_; rintro e w1 ⟨rfl, hb⟩; have k := res2 hb; obtain ⟨hc, hf⟩ := bcell hb))
  all_goals
    refine bodyPost_ret ?_ rfl (head_none (balloc (Below.refl _ _) _))
    simp [results, Try.results42, go_sem]

set_option maxRecDepth 100000 in
set_option maxHeartbeats 2000000 in
theorem heads_49   (w : World) :
    Calls Try.prog 42 #[.int .i64 49, .int .i64 20, .int .i64 0] w (HeadIs w (headsL 49 20 0)) := by
  have eq : headsL 49 20 0 = ([121], 3) := by simp [headsL, aloneB]
  rw [eq]
  clear eq
  obtain ⟨c1, c2, c3, c4, c5, c6, c7, c8⟩ := near_consts
  go_enter Try.func42, Try.ntmps42
  go_wp2_with (first
    | (go_at_call 94; refine (wide_any _ _).mono ?_; rintro e w' ⟨rfl, rfl⟩)
    | (go_at_call 96; refine (num_any _ (by omega) (by omega) _).mono ?_; rintro e w' ⟨rfl, rfl⟩)
    | (go_at_call 98; refine (mem_any _ _ (by omega) (by omega) (by omega) (by omega) _).mono ?_; rintro e w' ⟨rfl, rfl⟩)
    | (go_at_call 95; refine (rm_any _ _ (by omega) (by omega) (by omega) (by omega) _).mono ?_; rintro e w' ⟨rfl, rfl⟩)
    | (go_at_call 71; refine (of_any _ _ _ _ _).mono ?_; rintro e w1 ⟨rfl, hb⟩; have k := res2 hb; obtain ⟨hc, hf⟩ := bcell hb))
  all_goals
    refine bodyPost_ret ?_ rfl (head_leaf1 hb)
    simp [results, Try.results42, go_sem, k]

set_option maxRecDepth 100000 in
set_option maxHeartbeats 2000000 in
theorem heads_49n (d : Int) (xd20 : ¬ d = 20) (w : World) :
    Calls Try.prog 42 #[.int .i64 49, .int .i64 d, .int .i64 0] w (HeadIs w (headsL 49 d 0)) := by
  have eq : headsL 49 d 0 = ([], 0) := by simp [headsL, *, aloneB]
  rw [eq]
  clear eq
  go_enter Try.func42, Try.ntmps42
  go_wp2_with (first
    | (go_at_call 94; refine (wide_any _ _).mono ?_; rintro e w' ⟨rfl, rfl⟩)
    | (go_at_call 96; refine (num_any _ (by omega) (by omega) _).mono ?_; rintro e w' ⟨rfl, rfl⟩)
    | (go_at_call 98; refine (mem_any _ _ (by omega) (by omega) (by omega) (by omega) _).mono ?_; rintro e w' ⟨rfl, rfl⟩)
    | (go_at_call 95; refine (rm_any _ _ (by omega) (by omega) (by omega) (by omega) _).mono ?_; rintro e w' ⟨rfl, rfl⟩)
    | (go_at_call 71; refine (of_any _ _ _ _ _).mono ?_; rintro e w1 ⟨rfl, hb⟩; have k := res2 hb; obtain ⟨hc, hf⟩ := bcell hb))
  all_goals
    refine bodyPost_ret ?_ rfl (head_none (balloc (Below.refl _ _) _))
    simp [results, Try.results42, go_sem]

set_option maxRecDepth 100000 in
set_option maxHeartbeats 2000000 in
theorem heads_50   (w : World) :
    Calls Try.prog 42 #[.int .i64 50, .int .i64 20, .int .i64 0] w (HeadIs w (headsL 50 20 0)) := by
  have eq : headsL 50 20 0 = ([122], 3) := by simp [headsL, aloneB]
  rw [eq]
  clear eq
  obtain ⟨c1, c2, c3, c4, c5, c6, c7, c8⟩ := near_consts
  go_enter Try.func42, Try.ntmps42
  go_wp2_with (first
    | (go_at_call 94; refine (wide_any _ _).mono ?_; rintro e w' ⟨rfl, rfl⟩)
    | (go_at_call 96; refine (num_any _ (by omega) (by omega) _).mono ?_; rintro e w' ⟨rfl, rfl⟩)
    | (go_at_call 98; refine (mem_any _ _ (by omega) (by omega) (by omega) (by omega) _).mono ?_; rintro e w' ⟨rfl, rfl⟩)
    | (go_at_call 95; refine (rm_any _ _ (by omega) (by omega) (by omega) (by omega) _).mono ?_; rintro e w' ⟨rfl, rfl⟩)
    | (go_at_call 71; refine (of_any _ _ _ _ _).mono ?_; rintro e w1 ⟨rfl, hb⟩; have k := res2 hb; obtain ⟨hc, hf⟩ := bcell hb))
  all_goals
    refine bodyPost_ret ?_ rfl (head_leaf1 hb)
    simp [results, Try.results42, go_sem, k]

set_option maxRecDepth 100000 in
set_option maxHeartbeats 2000000 in
theorem heads_50n (d : Int) (xd20 : ¬ d = 20) (w : World) :
    Calls Try.prog 42 #[.int .i64 50, .int .i64 d, .int .i64 0] w (HeadIs w (headsL 50 d 0)) := by
  have eq : headsL 50 d 0 = ([], 0) := by simp [headsL, *, aloneB]
  rw [eq]
  clear eq
  go_enter Try.func42, Try.ntmps42
  go_wp2_with (first
    | (go_at_call 94; refine (wide_any _ _).mono ?_; rintro e w' ⟨rfl, rfl⟩)
    | (go_at_call 96; refine (num_any _ (by omega) (by omega) _).mono ?_; rintro e w' ⟨rfl, rfl⟩)
    | (go_at_call 98; refine (mem_any _ _ (by omega) (by omega) (by omega) (by omega) _).mono ?_; rintro e w' ⟨rfl, rfl⟩)
    | (go_at_call 95; refine (rm_any _ _ (by omega) (by omega) (by omega) (by omega) _).mono ?_; rintro e w' ⟨rfl, rfl⟩)
    | (go_at_call 71; refine (of_any _ _ _ _ _).mono ?_; rintro e w1 ⟨rfl, hb⟩; have k := res2 hb; obtain ⟨hc, hf⟩ := bcell hb))
  all_goals
    refine bodyPost_ret ?_ rfl (head_none (balloc (Below.refl _ _) _))
    simp [results, Try.results42, go_sem]

set_option maxRecDepth 100000 in
set_option maxHeartbeats 2000000 in
theorem heads_51   (w : World) :
    Calls Try.prog 42 #[.int .i64 51, .int .i64 20, .int .i64 0] w (HeadIs w (headsL 51 20 0)) := by
  have eq : headsL 51 20 0 = ([123], 3) := by simp [headsL, aloneB]
  rw [eq]
  clear eq
  obtain ⟨c1, c2, c3, c4, c5, c6, c7, c8⟩ := near_consts
  go_enter Try.func42, Try.ntmps42
  go_wp2_with (first
    | (go_at_call 94; refine (wide_any _ _).mono ?_; rintro e w' ⟨rfl, rfl⟩)
    | (go_at_call 96; refine (num_any _ (by omega) (by omega) _).mono ?_; rintro e w' ⟨rfl, rfl⟩)
    | (go_at_call 98; refine (mem_any _ _ (by omega) (by omega) (by omega) (by omega) _).mono ?_; rintro e w' ⟨rfl, rfl⟩)
    | (go_at_call 95; refine (rm_any _ _ (by omega) (by omega) (by omega) (by omega) _).mono ?_; rintro e w' ⟨rfl, rfl⟩)
    | (go_at_call 71; refine (of_any _ _ _ _ _).mono ?_; rintro e w1 ⟨rfl, hb⟩; have k := res2 hb; obtain ⟨hc, hf⟩ := bcell hb))
  all_goals
    refine bodyPost_ret ?_ rfl (head_leaf1 hb)
    simp [results, Try.results42, go_sem, k]

set_option maxRecDepth 100000 in
set_option maxHeartbeats 2000000 in
theorem heads_51n (d : Int) (xd20 : ¬ d = 20) (w : World) :
    Calls Try.prog 42 #[.int .i64 51, .int .i64 d, .int .i64 0] w (HeadIs w (headsL 51 d 0)) := by
  have eq : headsL 51 d 0 = ([], 0) := by simp [headsL, *, aloneB]
  rw [eq]
  clear eq
  go_enter Try.func42, Try.ntmps42
  go_wp2_with (first
    | (go_at_call 94; refine (wide_any _ _).mono ?_; rintro e w' ⟨rfl, rfl⟩)
    | (go_at_call 96; refine (num_any _ (by omega) (by omega) _).mono ?_; rintro e w' ⟨rfl, rfl⟩)
    | (go_at_call 98; refine (mem_any _ _ (by omega) (by omega) (by omega) (by omega) _).mono ?_; rintro e w' ⟨rfl, rfl⟩)
    | (go_at_call 95; refine (rm_any _ _ (by omega) (by omega) (by omega) (by omega) _).mono ?_; rintro e w' ⟨rfl, rfl⟩)
    | (go_at_call 71; refine (of_any _ _ _ _ _).mono ?_; rintro e w1 ⟨rfl, hb⟩; have k := res2 hb; obtain ⟨hc, hf⟩ := bcell hb))
  all_goals
    refine bodyPost_ret ?_ rfl (head_none (balloc (Below.refl _ _) _))
    simp [results, Try.results42, go_sem]

theorem heads_lit (op d : Int) (h : op = 20 ∨ op = 21 ∨ op = 22 ∨ op = 23 ∨ op = 24 ∨ op = 25 ∨ op = 26 ∨ op = 27 ∨ op = 28 ∨ op = 29 ∨ op = 32 ∨ op = 33 ∨ op = 34 ∨ op = 35 ∨ op = 42 ∨ op = 43 ∨ op = 44 ∨ op = 45 ∨ op = 48 ∨ op = 49 ∨ op = 50 ∨ op = 51) (w : World) : Calls Try.prog 42 #[.int .i64 op, .int .i64 d, .int .i64 0] w (HeadIs w (headsL op d 0)) := by
  rcases h with rfl | rfl | rfl | rfl | rfl | rfl | rfl | rfl | rfl | rfl | rfl | rfl | rfl | rfl | rfl | rfl | rfl | rfl | rfl | rfl | rfl | rfl
  · by_cases q : d = 0
    · subst q; exact heads_20 w
    · exact heads_20n d q w
  · by_cases q : d = 0
    · subst q; exact heads_21 w
    · exact heads_21n d q w
  · by_cases q : d = 0
    · subst q; exact heads_22 w
    · exact heads_22n d q w
  · by_cases q : d = 0
    · subst q; exact heads_23 w
    · exact heads_23n d q w
  · by_cases q : d = 0
    · subst q; exact heads_24 w
    · exact heads_24n d q w
  · by_cases q : d = 0
    · subst q; exact heads_25 w
    · exact heads_25n d q w
  · by_cases q : d = 0
    · subst q; exact heads_26 w
    · exact heads_26n d q w
  · by_cases q : d = 0
    · subst q; exact heads_27 w
    · exact heads_27n d q w
  · by_cases q : d = 0
    · subst q; exact heads_28 w
    · exact heads_28n d q w
  · by_cases q : d = 0
    · subst q; exact heads_29 w
    · exact heads_29n d q w
  · by_cases q : d = 20
    · subst q; exact heads_32 w
    · exact heads_32n d q w
  · by_cases q : d = 20
    · subst q; exact heads_33 w
    · exact heads_33n d q w
  · by_cases q : d = 20
    · subst q; exact heads_34 w
    · exact heads_34n d q w
  · by_cases q : d = 0
    · subst q; exact heads_35 w
    · exact heads_35n d q w
  · by_cases q : d = 20
    · subst q; exact heads_42 w
    · exact heads_42n d q w
  · by_cases q : d = 20
    · subst q; exact heads_43 w
    · exact heads_43n d q w
  · by_cases q : d = 20
    · subst q; exact heads_44 w
    · exact heads_44n d q w
  · by_cases q : d = 20
    · subst q; exact heads_45 w
    · exact heads_45n d q w
  · by_cases q : d = 20
    · subst q; exact heads_48 w
    · exact heads_48n d q w
  · by_cases q : d = 20
    · subst q; exact heads_49 w
    · exact heads_49n d q w
  · by_cases q : d = 20
    · subst q; exact heads_50 w
    · exact heads_50n d q w
  · by_cases q : d = 20
    · subst q; exact heads_51 w
    · exact heads_51n d q w

end Go.Proofs.Ytbhkndblolegaaa
