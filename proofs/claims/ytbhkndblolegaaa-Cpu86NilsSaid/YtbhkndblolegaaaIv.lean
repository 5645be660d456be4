/- The walk of pidginlaw08.alive. -/
import Derived.Test.YtbhkndblolegaaaIz2
import Derived.Test.YtbhkndblolegaaaIk
namespace Go.Proofs.Ytbhkndblolegaaa
open Go.RowKit
set_option linter.unusedVariables false
set_option linter.unusedSimpArgs false

theorem bytes8 (w : World) : Calls Try.prog 24 #[.agg #[.int .i64 1, .int .i64 1, .int .i64 17, .int .u16 0]] w fun e w' =>
    ∃ g cap, e = .returned (.tuple #[.slice (some ⟨g, 0, none⟩) 2 cap, .int .i64 0]) ∧ g < w'.heap.size ∧ w'.cell? ⟨g, 0, none⟩ = some (.int .u8 138) ∧ w'.cell? ⟨g, 1, none⟩ = some (.int .u8 7) ∧ Below w.heap.size w w' := by
  have h := bytes_any 1 1 17 0 (by decide) (by decide) w
  rw [show rightL (headsL 1 1 17) 0 = 0 by decide, show bytesL 1 1 17 0 = [138, 7] by decide] at h
  refine h.mono ?_
  rintro e w' ⟨v, rfl, hr, hb⟩
  rcases hr with ⟨he, _⟩ | ⟨_, g, cap, hg, hg2, hc, rfl, hs⟩
  · cases he
  · exact ⟨g, cap, rfl, hg2, hs 0 (by decide), hs 1 (by decide), hb⟩
theorem guess8 : Tells3 116 254 44 20 0 := by
  intro w
  have h := guess_any 116 254 (by decide) (by decide) (by decide) (by decide) w
  rw [show guessL 116 254 = (44, 20, 0) by decide] at h
  exact h
theorem heads8 : TellsH 44 20 0 [116] 3 := by
  intro w
  have h := heads_any 44 20 0 w
  rw [show headsL 44 20 0 = ([116], 3) by decide] at h
  exact h
theorem read8 (gb : Nat) (w : World) (hc0 : w.cell? ⟨gb, 0, none⟩ = some (.int .u8 116)) (hc1 : w.cell? ⟨gb, 1, none⟩ = some (.int .u8 254)) :
    Calls Try.prog 23 #[.slice (some ⟨gb, 0, none⟩) 2 2] w fun e w' => e = .returned (.tuple #[.agg #[.int .i64 44, .int .i64 20, .int .i64 0, .int .u16 65534], .int .i64 2, .int .i64 0]) ∧ Below w.heap.size w w' := by
  have h := read_O13 gb 0 2 2 116 254 44 20 0 guess8 heads8 w (by decide) (by decide) (by decide) (by decide) (by decide) (by decide) (by decide) hc0 hc1
  rw [show nearN 254 = 65534 by decide] at h
  exact h

theorem new2 (w : World) (x y : Value) (t : TypeId) (g : Nat) (hg : g = w.heap.size) : (w.alloc (.cells #[x, y] t)).cell? ⟨g, 0, none⟩ = some x ∧ (w.alloc (.cells #[x, y] t)).cell? ⟨g, 1, none⟩ = some y := by
  subst hg
  exact ⟨(own_new w #[x, y] t).cell 0, (own_new w #[x, y] t).cell 1⟩
theorem ralive8 (w : World) (o : Obj) (g cap : Nat) (c0 : w.cell? ⟨g, 0, none⟩ = some (.int .u8 138)) (c1 : w.cell? ⟨g, 1, none⟩ = some (.int .u8 7)) :
    Calls Try.prog 25 #[.slice (some ⟨g, 0, none⟩) 2 cap, .slice (some ⟨w.heap.size + 1, 0, none⟩) 2 2] ((w.alloc o).alloc (.cells #[.int .u8 138, .int .u8 7] 5)) fun e w' => e = .returned (.bool true) ∧ ∃ m, w' = ((w.alloc o).alloc (.cells #[.int .u8 138, .int .u8 7] 5)).drewN m := by
  have b : Below w.heap.size w ((w.alloc o).alloc (.cells #[.int .u8 138, .int .u8 7] 5)) := balloc (balloc (Below.refl _ _) _) _
  have n2 := new2 (w.alloc o) (.int .u8 138) (.int .u8 7) 5 (w.heap.size + 1) (by simp)
  have h := rbytes_same g 0 cap (w.heap.size + 1) 0 2 [138, 7] [138, 7] ((w.alloc o).alloc (.cells #[.int .u8 138, .int .u8 7] 5)) (by decide) rfl (sees2 (cell_below c0 b) (cell_below c1 b)) (sees2 n2.1 n2.2)
  rw [show decide (([138, 7] : List Int) = [138, 7]) = true by decide] at h
  exact h

set_option maxRecDepth 100000 in
set_option maxHeartbeats 1000000 in
theorem alive8_any (w : World) : Calls Try.prog 22 #[] w fun e w' => e = .returned (.bool true) ∧ Below w.heap.size w w' := by
  go_enter Try.func22, Try.ntmps22
  go_wp2_with (first
    | (go_at_call 24; refine (bytes8 _).mono ?_; rintro e w1 ⟨g, cap, rfl, hg, c0, c1, hb1⟩)
    | (go_at_call 23; refine (read8 _ _ (new2 w1 _ _ _ _ rfl).1 (new2 w1 _ _ _ _ rfl).2).mono ?_; rintro e w2 ⟨rfl, hb2⟩; have bb : Below w1.heap.size w1 w2 := bthen hb2 (balloc (Below.refl _ _) _); have e0 := cell_below c0 bb; have e1 := cell_below c1 bb; have b2 : Below w.heap.size w w2 := bthen bb hb1)
    | (go_at_call 25; refine (ralive8 w2 _ g cap e0 e1).mono ?_; rintro e w3 ⟨rfl, m, rfl⟩))
  go_ret
  exact ⟨rfl, bdrewN (balloc (balloc b2 _) _) m⟩

end Go.Proofs.Ytbhkndblolegaaa
