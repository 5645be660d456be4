/- The walks of cpu86's of, holds, address. -/
import Derived.Test.YtbhkndblolegaaaCc
namespace Go.Proofs.Ytbhkndblolegaaa
open Go.RowKit
set_option linter.unusedVariables false
set_option linter.unusedSimpArgs false

theorem own4c {w : World} {g : Nat} {a b c d : Value} {t : TypeId} (h : Own w g #[a, b, c, d] t) :
    w.cell? ⟨g, 0, none⟩ = some a ∧ w.cell? ⟨g, 1, none⟩ = some b ∧ w.cell? ⟨g, 2, none⟩ = some c ∧ w.cell? ⟨g, 3, none⟩ = some d :=
  ⟨h.cell 0, h.cell 1, h.cell 2, h.cell 3⟩
def ofL (d s : Int) : Int := if (9 ≤ d ∧ d ≤ 16) ∨ (9 ≤ s ∧ s ≤ 16) then 16 else 8
theorem ofL_or (d s : Int) : ofL d s = 8 ∨ ofL d s = 16 := by unfold ofL; split <;> simp
set_option maxRecDepth 100000 in
set_option maxHeartbeats 1000000 in
theorem of_d (op d s n : Int) (h0 : 9 ≤ d) (h1 : d ≤ 16) (w : World) :
    Calls Try.prog 53 #[.agg #[.int .i64 op, .int .i64 d, .int .i64 s, .int .u16 n]] w fun e w' => e = .returned (.int .u64 16) ∧ Below w.heap.size w w' := by
  have i0 : ∀ w, (Instr.index 130 (.agg #[.int .i64 d, .int .i64 s]) (.int .i64 0)).run Try.prog w = .ok (.int .i64 d) w := fun _ => by kernel_rfl
  have o := own4c (own_new w #[.int .i64 op, .int .i64 d, .int .i64 s, .int .u16 n] 52)
  go_enter Try.func53, Try.ntmps53
  go_wp2
  refine wp_loop_rounds 1 ?_
  simp only [rounds_succ]
  go_wp2
  go_ret
  exact ⟨rfl, balloc (Below.refl _ _) _⟩

set_option maxRecDepth 100000 in
set_option maxHeartbeats 1000000 in
theorem of_li (op d s n : Int) (h0 : d < 9) (g0 : 9 ≤ s) (g1 : s ≤ 16) (w : World) :
    Calls Try.prog 53 #[.agg #[.int .i64 op, .int .i64 d, .int .i64 s, .int .u16 n]] w fun e w' => e = .returned (.int .u64 16) ∧ Below w.heap.size w w' := by
  have i0 : ∀ w, (Instr.index 130 (.agg #[.int .i64 d, .int .i64 s]) (.int .i64 0)).run Try.prog w = .ok (.int .i64 d) w := fun _ => by kernel_rfl
  have i1 : ∀ w, (Instr.index 130 (.agg #[.int .i64 d, .int .i64 s]) (.int .i64 1)).run Try.prog w = .ok (.int .i64 s) w := fun _ => by kernel_rfl
  have o := own4c (own_new w #[.int .i64 op, .int .i64 d, .int .i64 s, .int .u16 n] 52)
  go_enter Try.func53, Try.ntmps53
  go_wp2
  refine wp_loop_rounds 2 ?_
  simp only [rounds_succ]
  go_wp2
  simp only [rounds_succ]
  go_wp2
  go_ret
  exact ⟨rfl, balloc (Below.refl _ _) _⟩
set_option maxRecDepth 100000 in
set_option maxHeartbeats 1000000 in
theorem of_ll (op d s n : Int) (h0 : d < 9) (g0 : s < 9) (w : World) :
    Calls Try.prog 53 #[.agg #[.int .i64 op, .int .i64 d, .int .i64 s, .int .u16 n]] w fun e w' => e = .returned (.int .u64 8) ∧ Below w.heap.size w w' := by
  have i0 : ∀ w, (Instr.index 130 (.agg #[.int .i64 d, .int .i64 s]) (.int .i64 0)).run Try.prog w = .ok (.int .i64 d) w := fun _ => by kernel_rfl
  have i1 : ∀ w, (Instr.index 130 (.agg #[.int .i64 d, .int .i64 s]) (.int .i64 1)).run Try.prog w = .ok (.int .i64 s) w := fun _ => by kernel_rfl
  have o := own4c (own_new w #[.int .i64 op, .int .i64 d, .int .i64 s, .int .u16 n] 52)
  go_enter Try.func53, Try.ntmps53
  go_wp2
  refine wp_loop_rounds 3 ?_
  simp only [rounds_succ]
  go_wp2
  simp only [rounds_succ]
  go_wp2
  simp only [rounds_succ]
  go_wp2
  go_ret
  exact ⟨rfl, balloc (Below.refl _ _) _⟩
set_option maxRecDepth 100000 in
set_option maxHeartbeats 1000000 in
theorem of_lh (op d s n : Int) (h0 : d < 9) (g0 : 16 < s) (w : World) :
    Calls Try.prog 53 #[.agg #[.int .i64 op, .int .i64 d, .int .i64 s, .int .u16 n]] w fun e w' => e = .returned (.int .u64 8) ∧ Below w.heap.size w w' := by
  have i0 : ∀ w, (Instr.index 130 (.agg #[.int .i64 d, .int .i64 s]) (.int .i64 0)).run Try.prog w = .ok (.int .i64 d) w := fun _ => by kernel_rfl
  have i1 : ∀ w, (Instr.index 130 (.agg #[.int .i64 d, .int .i64 s]) (.int .i64 1)).run Try.prog w = .ok (.int .i64 s) w := fun _ => by kernel_rfl
  have o := own4c (own_new w #[.int .i64 op, .int .i64 d, .int .i64 s, .int .u16 n] 52)
  go_enter Try.func53, Try.ntmps53
  go_wp2
  refine wp_loop_rounds 3 ?_
  simp only [rounds_succ]
  go_wp2
  simp only [rounds_succ]
  go_wp2
  simp only [rounds_succ]
  go_wp2
  go_ret
  exact ⟨rfl, balloc (Below.refl _ _) _⟩
set_option maxRecDepth 100000 in
set_option maxHeartbeats 1000000 in
theorem of_hi (op d s n : Int) (h0 : 16 < d) (g0 : 9 ≤ s) (g1 : s ≤ 16) (w : World) :
    Calls Try.prog 53 #[.agg #[.int .i64 op, .int .i64 d, .int .i64 s, .int .u16 n]] w fun e w' => e = .returned (.int .u64 16) ∧ Below w.heap.size w w' := by
  have i0 : ∀ w, (Instr.index 130 (.agg #[.int .i64 d, .int .i64 s]) (.int .i64 0)).run Try.prog w = .ok (.int .i64 d) w := fun _ => by kernel_rfl
  have i1 : ∀ w, (Instr.index 130 (.agg #[.int .i64 d, .int .i64 s]) (.int .i64 1)).run Try.prog w = .ok (.int .i64 s) w := fun _ => by kernel_rfl
  have o := own4c (own_new w #[.int .i64 op, .int .i64 d, .int .i64 s, .int .u16 n] 52)
  go_enter Try.func53, Try.ntmps53
  go_wp2
  refine wp_loop_rounds 2 ?_
  simp only [rounds_succ]
  go_wp2
  simp only [rounds_succ]
  go_wp2
  go_ret
  exact ⟨rfl, balloc (Below.refl _ _) _⟩
set_option maxRecDepth 100000 in
set_option maxHeartbeats 1000000 in
theorem of_hl (op d s n : Int) (h0 : 16 < d) (g0 : s < 9) (w : World) :
    Calls Try.prog 53 #[.agg #[.int .i64 op, .int .i64 d, .int .i64 s, .int .u16 n]] w fun e w' => e = .returned (.int .u64 8) ∧ Below w.heap.size w w' := by
  have i0 : ∀ w, (Instr.index 130 (.agg #[.int .i64 d, .int .i64 s]) (.int .i64 0)).run Try.prog w = .ok (.int .i64 d) w := fun _ => by kernel_rfl
  have i1 : ∀ w, (Instr.index 130 (.agg #[.int .i64 d, .int .i64 s]) (.int .i64 1)).run Try.prog w = .ok (.int .i64 s) w := fun _ => by kernel_rfl
  have o := own4c (own_new w #[.int .i64 op, .int .i64 d, .int .i64 s, .int .u16 n] 52)
  go_enter Try.func53, Try.ntmps53
  go_wp2
  refine wp_loop_rounds 3 ?_
  simp only [rounds_succ]
  go_wp2
  simp only [rounds_succ]
  go_wp2
  simp only [rounds_succ]
  go_wp2
  go_ret
  exact ⟨rfl, balloc (Below.refl _ _) _⟩
set_option maxRecDepth 100000 in
set_option maxHeartbeats 1000000 in
theorem of_hh (op d s n : Int) (h0 : 16 < d) (g0 : 16 < s) (w : World) :
    Calls Try.prog 53 #[.agg #[.int .i64 op, .int .i64 d, .int .i64 s, .int .u16 n]] w fun e w' => e = .returned (.int .u64 8) ∧ Below w.heap.size w w' := by
  have i0 : ∀ w, (Instr.index 130 (.agg #[.int .i64 d, .int .i64 s]) (.int .i64 0)).run Try.prog w = .ok (.int .i64 d) w := fun _ => by kernel_rfl
  have i1 : ∀ w, (Instr.index 130 (.agg #[.int .i64 d, .int .i64 s]) (.int .i64 1)).run Try.prog w = .ok (.int .i64 s) w := fun _ => by kernel_rfl
  have o := own4c (own_new w #[.int .i64 op, .int .i64 d, .int .i64 s, .int .u16 n] 52)
  go_enter Try.func53, Try.ntmps53
  go_wp2
  refine wp_loop_rounds 3 ?_
  simp only [rounds_succ]
  go_wp2
  simp only [rounds_succ]
  go_wp2
  simp only [rounds_succ]
  go_wp2
  go_ret
  exact ⟨rfl, balloc (Below.refl _ _) _⟩
theorem of86_any (op d s n : Int) (w : World) :
    Calls Try.prog 53 #[.agg #[.int .i64 op, .int .i64 d, .int .i64 s, .int .u16 n]] w fun e w' => e = .returned (.int .u64 (ofL d s)) ∧ Below w.heap.size w w' := by
  by_cases a : d < 9
  · by_cases b : s < 9
    · have e : ofL d s = 8 := by unfold ofL; rw [if_neg (by omega)]
      rw [e]; exact of_ll op d s n a b w
    by_cases c : 16 < s
    · have e : ofL d s = 8 := by unfold ofL; rw [if_neg (by omega)]
      rw [e]; exact of_lh op d s n a c w
    have e : ofL d s = 16 := by unfold ofL; rw [if_pos (by omega)]
    rw [e]; exact of_li op d s n a (by omega) (by omega) w
  by_cases a' : 16 < d
  · by_cases b : s < 9
    · have e : ofL d s = 8 := by unfold ofL; rw [if_neg (by omega)]
      rw [e]; exact of_hl op d s n a' b w
    by_cases c : 16 < s
    · have e : ofL d s = 8 := by unfold ofL; rw [if_neg (by omega)]
      rw [e]; exact of_hh op d s n a' c w
    have e : ofL d s = 16 := by unfold ofL; rw [if_pos (by omega)]
    rw [e]; exact of_hi op d s n a' (by omega) (by omega) w
  have e : ofL d s = 16 := by unfold ofL; rw [if_pos (by omega)]
  rw [e]; exact of_d op d s n (by omega) (by omega) w

/-- The condition of a jump. -/
def holdsL (F : Fl) (op : Int) : Bool :=
  if op = 42 then F.c else if op = 43 then !F.c else if op = 44 then F.z else if op = 45 then !F.z else if op = 48 then F.s else if op = 49 then !F.s else if op = 50 then F.p else !F.p
def condP (op : Int) : Prop := op = 42 ∨ op = 43 ∨ op = 44 ∨ op = 45 ∨ op = 48 ∨ op = 49 ∨ op = 50 ∨ op = 51
theorem holds_any (g : Nat) (r : Rg) (vi vo vc vd : Value) (op : Int) (h : condP op) (w : World) (hm : Mach w g r vi vo vc vd) :
    Calls Try.prog 86 #[at0 g, .int .i64 op] w fun e w' => e = .returned (.bool (holdsL r.F op)) ∧ w' = w := by
  obtain ⟨_, _, _, _, _, _, _, _, ks, kz, _, kp, kc, _, _, _, _, _, _, _⟩ := mach_cells hm
  clear hm
  rcases h with rfl | rfl | rfl | rfl | rfl | rfl | rfl | rfl
  · have e : holdsL r.F 42 = r.F.c := by simp [holdsL]
    rw [e]
    have a1 : bits BinOp.andNot IntKind.i64 42 1 = 42 := by decide
    have a2 : bits BinOp.and IntKind.i64 42 1 = 0 := by decide
    cases hf : r.F.c
    · rw [hf] at kc
      go_enter Try.func86, Try.ntmps86
      go_wp2
      go_ret
      exact ⟨rfl, rfl⟩
    · rw [hf] at kc
      go_enter Try.func86, Try.ntmps86
      go_wp2
      go_ret
      exact ⟨rfl, rfl⟩
  · have e : holdsL r.F 43 = !r.F.c := by simp [holdsL]
    rw [e]
    have a1 : bits BinOp.andNot IntKind.i64 43 1 = 42 := by decide
    have a2 : bits BinOp.and IntKind.i64 43 1 = 1 := by decide
    cases hf : r.F.c
    · rw [hf] at kc
      go_enter Try.func86, Try.ntmps86
      go_wp2
      go_ret
      exact ⟨rfl, rfl⟩
    · rw [hf] at kc
      go_enter Try.func86, Try.ntmps86
      go_wp2
      go_ret
      exact ⟨rfl, rfl⟩
  · have e : holdsL r.F 44 = r.F.z := by simp [holdsL]
    rw [e]
    have a1 : bits BinOp.andNot IntKind.i64 44 1 = 44 := by decide
    have a2 : bits BinOp.and IntKind.i64 44 1 = 0 := by decide
    cases hf : r.F.z
    · rw [hf] at kz
      go_enter Try.func86, Try.ntmps86
      go_wp2
      go_ret
      exact ⟨rfl, rfl⟩
    · rw [hf] at kz
      go_enter Try.func86, Try.ntmps86
      go_wp2
      go_ret
      exact ⟨rfl, rfl⟩
  · have e : holdsL r.F 45 = !r.F.z := by simp [holdsL]
    rw [e]
    have a1 : bits BinOp.andNot IntKind.i64 45 1 = 44 := by decide
    have a2 : bits BinOp.and IntKind.i64 45 1 = 1 := by decide
    cases hf : r.F.z
    · rw [hf] at kz
      go_enter Try.func86, Try.ntmps86
      go_wp2
      go_ret
      exact ⟨rfl, rfl⟩
    · rw [hf] at kz
      go_enter Try.func86, Try.ntmps86
      go_wp2
      go_ret
      exact ⟨rfl, rfl⟩
  · have e : holdsL r.F 48 = r.F.s := by simp [holdsL]
    rw [e]
    have a1 : bits BinOp.andNot IntKind.i64 48 1 = 48 := by decide
    have a2 : bits BinOp.and IntKind.i64 48 1 = 0 := by decide
    cases hf : r.F.s
    · rw [hf] at ks
      go_enter Try.func86, Try.ntmps86
      go_wp2
      go_ret
      exact ⟨rfl, rfl⟩
    · rw [hf] at ks
      go_enter Try.func86, Try.ntmps86
      go_wp2
      go_ret
      exact ⟨rfl, rfl⟩
  · have e : holdsL r.F 49 = !r.F.s := by simp [holdsL]
    rw [e]
    have a1 : bits BinOp.andNot IntKind.i64 49 1 = 48 := by decide
    have a2 : bits BinOp.and IntKind.i64 49 1 = 1 := by decide
    cases hf : r.F.s
    · rw [hf] at ks
      go_enter Try.func86, Try.ntmps86
      go_wp2
      go_ret
      exact ⟨rfl, rfl⟩
    · rw [hf] at ks
      go_enter Try.func86, Try.ntmps86
      go_wp2
      go_ret
      exact ⟨rfl, rfl⟩
  · have e : holdsL r.F 50 = r.F.p := by simp [holdsL]
    rw [e]
    have a1 : bits BinOp.andNot IntKind.i64 50 1 = 50 := by decide
    have a2 : bits BinOp.and IntKind.i64 50 1 = 0 := by decide
    cases hf : r.F.p
    · rw [hf] at kp
      go_enter Try.func86, Try.ntmps86
      go_wp2
      go_ret
      exact ⟨rfl, rfl⟩
    · rw [hf] at kp
      go_enter Try.func86, Try.ntmps86
      go_wp2
      go_ret
      exact ⟨rfl, rfl⟩
  · have e : holdsL r.F 51 = !r.F.p := by simp [holdsL]
    rw [e]
    have a1 : bits BinOp.andNot IntKind.i64 51 1 = 50 := by decide
    have a2 : bits BinOp.and IntKind.i64 51 1 = 1 := by decide
    cases hf : r.F.p
    · rw [hf] at kp
      go_enter Try.func86, Try.ntmps86
      go_wp2
      go_ret
      exact ⟨rfl, rfl⟩
    · rw [hf] at kp
      go_enter Try.func86, Try.ntmps86
      go_wp2
      go_ret
      exact ⟨rfl, rfl⟩
theorem address_any (g : Nat) (r : Rg) (vi vo vc vd : Value) (code n : Int) (w : World) (hm : Mach w g r vi vo vc vd) :
    Calls Try.prog 83 #[at0 g, .int .i64 code, .int .u16 n] w fun e w' => e = .returned (.int .u16 (addrL r code n)) ∧ w' = w := by
  obtain ⟨_, _, _, k3, _, _, k6, _, _, _, _, _, _, _, _, _, _, _, _, _⟩ := mach_cells hm
  clear hm
  by_cases h : code = 17
  · subst h
    go_enter Try.func83, Try.ntmps83
    go_wp2
    go_ret
    exact ⟨rfl, rfl⟩
  by_cases h2 : code = 18
  · subst h2
    go_enter Try.func83, Try.ntmps83
    go_wp2
    go_ret
    exact ⟨rfl, rfl⟩
  have e : addrL r code n = n := by unfold addrL; rw [if_neg h, if_neg h2]
  rw [e]
  go_enter Try.func83, Try.ntmps83
  go_wp2
  go_ret
  exact ⟨rfl, rfl⟩

end Go.Proofs.Ytbhkndblolegaaa
