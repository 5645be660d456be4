/- The walks of package isa86's small functions. Words for a head that comes back. -/
import Derived.Test.YtbhkndblolegaaaKa
import Derived.Test.YtbhkndblolegaaaPa
namespace Go.Proofs.Ytbhkndblolegaaa
open Go.RowKit
set_option linter.unusedVariables false
set_option linter.unusedSimpArgs false

set_option maxHeartbeats 400000 in
theorem wide_any (c : Int) (w : World) : Calls Try.prog 94 #[.int .i64 c] w fun e w' => e = .returned (.int .i64 (wideL c)) ∧ w = w' := by
  rcases wide_cases c with ⟨h, h0, h1⟩ | ⟨h, h0, h1⟩ | ⟨h, h0 | h0⟩ <;> rw [h] <;> clear h <;>
  · go_enter Try.func94, Try.ntmps94
    go_wp2
    go_ret
    exact ⟨rfl, rfl⟩

set_option maxHeartbeats 400000 in
theorem num_any (c : Int) (h0 : 1 ≤ c) (h1 : c ≤ 16) (w : World) : Calls Try.prog 96 #[.int .i64 c] w fun e w' => e = .returned (.int .u8 (numL c)) ∧ w = w' := by
  have h := and7 c
  have e : (c - 1) % 256 = c - 1 := by omega
  rw [e] at h
  clear e
  go_enter Try.func96, Try.ntmps96
  go_wp2
  go_ret
  exact ⟨rfl, rfl⟩

set_option maxHeartbeats 400000 in
theorem rm_any (x y : Int) (h0 : 0 ≤ x) (h1 : x ≤ 7) (h2 : 0 ≤ y) (h3 : y ≤ 7) (w : World) : Calls Try.prog 95 #[.int .u8 x, .int .u8 y] w fun e w' => e = .returned (.int .u8 (192 + x * 8 + y)) ∧ w = w' := by
  obtain ⟨e1, e2⟩ := pair_or x y h0 h1 h2 h3
  go_enter Try.func95, Try.ntmps95
  go_wp2
  go_ret
  exact ⟨rfl, rfl⟩

set_option maxHeartbeats 400000 in
theorem mem_any (x y : Int) (h0 : 0 ≤ x) (h1 : x ≤ 7) (h2 : 0 ≤ y) (h3 : y ≤ 7) (w : World) : Calls Try.prog 98 #[.int .u8 x, .int .u8 y] w fun e w' => e = .returned (.int .u8 (x * 8 + y)) ∧ w = w' := by
  obtain ⟨e1, e2⟩ := pair_or x y h0 h1 h2 h3
  go_enter Try.func98, Try.ntmps98
  go_wp2
  go_ret
  exact ⟨rfl, rfl⟩

set_option maxHeartbeats 400000 in
theorem of_any (t : Int) (a : Option Addr) (n c : Nat) (w : World) : Calls Try.prog 71 #[.int .i64 t, .slice a n c] w fun e w' => e = .returned (.agg #[.slice a n c, .int .i64 t]) ∧ Below w.heap.size w w' := by
  go_enter Try.func71, Try.ntmps71
  go_wp2
  refine bodyPost_ret ?_ rfl ⟨rfl, ?_⟩
  · simp [results, Try.results71, go_sem]
  · exact balloc (Below.refl _ _) _

end Go.Proofs.Ytbhkndblolegaaa

namespace Go.Proofs.Ytbhkndblolegaaa
open Go.RowKit
set_option linter.unusedVariables false
set_option linter.unusedSimpArgs false

/-- A slice of bytes in a block of its own, from block B on; nil where it is empty. -/
def IsB (w : World) (B : Nat) (v : Value) (bs : List Int) : Prop :=
  (bs = [] ∧ v = .slice none 0 0) ∨ (bs ≠ [] ∧ ∃ g, B ≤ g ∧ v = .slice (some ⟨g, 0, none⟩) bs.length bs.length ∧ Own w g (bs.map (Value.int .u8)).toArray 5)
/-- A head comes back: its bytes in a new block, and its tail. -/
def HeadIs (w0 : World) (h : List Int × Int) (e : Ending) (w' : World) : Prop :=
  ∃ sl, e = .returned (.agg #[sl, .int .i64 h.2]) ∧ IsB w' w0.heap.size sl h.1 ∧ Below w0.heap.size w0 w'

theorem head_leaf2 {w w1 : World} {r : Array Value} {tr : TypeId} {x y t : Int}
    (hb : Below ((w.alloc (.cells r tr)).alloc (.cells #[.int .u8 x, .int .u8 y] 5)).heap.size ((w.alloc (.cells r tr)).alloc (.cells #[.int .u8 x, .int .u8 y] 5)) w1) :
    HeadIs w ([x, y], t) (.returned (.agg #[.slice (some ⟨w.heap.size + 1, 0, none⟩) 2 2, .int .i64 t])) ((w1.setCell ⟨w.heap.size, 0, none⟩ (.slice (some ⟨w.heap.size + 1, 0, none⟩) 2 2)).setCell ⟨w.heap.size, 1, none⟩ (.int .i64 t)) := by
  have o := (own_new (w.alloc (.cells r tr)) #[.int .u8 x, .int .u8 y] 5).below hb
  rw [World.size_alloc] at o
  refine ⟨_, rfl, .inr ⟨by simp, w.heap.size + 1, by omega, rfl, ?_⟩, ?_⟩
  · exact (o.setOther _ (by simp)).setOther _ (by simp)
  · exact bset (by simp) (bset (by simp) (bthen hb (balloc (balloc (Below.refl _ _) _) _)))
theorem head_leaf1 {w w1 : World} {r : Array Value} {tr : TypeId} {x t : Int}
    (hb : Below ((w.alloc (.cells r tr)).alloc (.cells #[.int .u8 x] 5)).heap.size ((w.alloc (.cells r tr)).alloc (.cells #[.int .u8 x] 5)) w1) :
    HeadIs w ([x], t) (.returned (.agg #[.slice (some ⟨w.heap.size + 1, 0, none⟩) 1 1, .int .i64 t])) ((w1.setCell ⟨w.heap.size, 0, none⟩ (.slice (some ⟨w.heap.size + 1, 0, none⟩) 1 1)).setCell ⟨w.heap.size, 1, none⟩ (.int .i64 t)) := by
  have o := (own_new (w.alloc (.cells r tr)) #[.int .u8 x] 5).below hb
  rw [World.size_alloc] at o
  refine ⟨_, rfl, .inr ⟨by simp, w.heap.size + 1, by omega, rfl, ?_⟩, ?_⟩
  · exact (o.setOther _ (by simp)).setOther _ (by simp)
  · exact bset (by simp) (bset (by simp) (bthen hb (balloc (balloc (Below.refl _ _) _) _)))
theorem res2 {w w1 : World} {a b : Value} {t : TypeId} {o : Obj} (hb : Below ((w.alloc (.cells #[a, b] t)).alloc o).heap.size ((w.alloc (.cells #[a, b] t)).alloc o) w1) : w1.cell? ⟨w.heap.size, 0, none⟩ = some a ∧ w1.cell? ⟨w.heap.size, 1, none⟩ = some b :=
  have h := ((own_new w #[a, b] t).alloc o).below hb
  ⟨h.cell 0, h.cell 1⟩
theorem res1 {w w1 : World} {a b : Value} {t : TypeId} (hb : Below (w.alloc (.cells #[a, b] t)).heap.size (w.alloc (.cells #[a, b] t)) w1) : w1.cell? ⟨w.heap.size, 0, none⟩ = some a ∧ w1.cell? ⟨w.heap.size, 1, none⟩ = some b :=
  have h := (own_new w #[a, b] t).below hb
  ⟨h.cell 0, h.cell 1⟩
theorem head_none {w w1 : World} (hb : Below w.heap.size w w1) : HeadIs w ([], 0) (.returned (.agg #[.slice none 0 0, .int .i64 0])) w1 :=
  ⟨_, rfl, .inl ⟨rfl, rfl⟩, hb⟩
theorem head_again {w w1 : World} {r : Array Value} {tr : TypeId} {sl : Value} {h : List Int × Int}
    (hs : IsB w1 (w.alloc (.cells r tr)).heap.size sl h.1) (hb : Below (w.alloc (.cells r tr)).heap.size (w.alloc (.cells r tr)) w1) :
    HeadIs w h (.returned (.agg #[sl, .int .i64 h.2])) ((w1.setCell ⟨w.heap.size, 0, none⟩ sl).setCell ⟨w.heap.size, 1, none⟩ (.int .i64 h.2)) := by
  refine ⟨_, rfl, ?_, bset (by simp) (bset (by simp) (bthen hb (balloc (Below.refl _ _) _)))⟩
  rcases hs with ⟨e, rfl⟩ | ⟨e, g, hg, rfl, ho⟩
  · exact .inl ⟨e, rfl⟩
  · rw [World.size_alloc] at hg
    exact .inr ⟨e, g, by omega, rfl, (ho.setOther _ (by simp; omega)).setOther _ (by simp; omega)⟩

end Go.Proofs.Ytbhkndblolegaaa
