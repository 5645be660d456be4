/- The walk of isa86.Read where there are two bytes or more. -/
import Derived.Test.YtbhkndblolegaaaIy
import Derived.Test.YtbhkndblolegaaaIg2
namespace Go.Proofs.Ytbhkndblolegaaa
open Go.RowKit
set_option linter.unusedVariables false
set_option linter.unusedSimpArgs false

/-- A call that gives three numbers. -/
def Tells3 (b0 m op d s : Int) : Prop := ∀ w, Calls Try.prog 41 #[.int .u8 b0, .int .u8 m] w fun e w' => e = .returned (.tuple #[.int .i64 op, .int .i64 d, .int .i64 s]) ∧ Below w.heap.size w w'
def TellsH (op d s : Int) (bs : List Int) (t : Int) : Prop := ∀ w, Calls Try.prog 42 #[.int .i64 op, .int .i64 d, .int .i64 s] w (HeadIs w (bs, t))

theorem isb_list {w : World} {B : Nat} {v : Value} {x : Int} {xs : List Int} {t : Int} (h : IsB w B v (x :: xs, t).1) : ∃ g, v = .slice (some ⟨g, 0, none⟩) (xs.length + 1) (xs.length + 1) ∧ B ≤ g ∧ Own w g ((x :: xs).map (Value.int .u8)).toArray 5 ∧ g < w.heap.size := by
  rcases h with ⟨he, _⟩ | ⟨_, g, hg, rfl, ho⟩
  · exact absurd he (by simp)
  · exact ⟨g, rfl, hg, ho, ho.lt⟩
theorem sees1 {w : World} {b o : Nat} {x : Int} (h : w.cell? ⟨b, o, none⟩ = some (.int .u8 x)) : SeesB w b o [x] := by
  intro j hj
  have : j = 0 := by simp at hj; exact hj
  subst this; exact h
theorem sees2 {w : World} {b o : Nat} {x y : Int} (h : w.cell? ⟨b, o, none⟩ = some (.int .u8 x)) (h2 : w.cell? ⟨b, o + 1, none⟩ = some (.int .u8 y)) : SeesB w b o [x, y] := by
  intro j hj
  have : j = 0 ∨ j = 1 := by simp at hj; omega
  rcases this with rfl | rfl
  · exact h
  · exact h2

set_option maxRecDepth 100000 in
set_option maxHeartbeats 2000000 in
theorem read_A (gb off n cap : Nat) (b0 b1 op d s t : Int) (hG : Tells3 b0 b1 op d s) (hH : TellsH op d s [] t) (w : World)
    (hn : (2 : Int) ≤ (n : Int)) (hn2 : n ≤ 1000) (hcap : (2 : Int) ≤ (cap : Int)) (hcap2 : (n : Int) ≤ (cap : Int))
    (hc0 : w.cell? ⟨gb, off, none⟩ = some (.int .u8 b0))
    (hc1 : w.cell? ⟨gb, off + 1, none⟩ = some (.int .u8 b1)) :
    Calls Try.prog 23 #[.slice (some ⟨gb, off, none⟩) n cap] w fun e w' => e = .returned (.tuple #[.agg #[.int .i64 0, .int .i64 0, .int .i64 0, .int .u16 0], .int .i64 0, .int .i64 12]) ∧ Below w.heap.size w w' := by
  have hlt := World.block_lt_of_cell? w _ hc0
  simp only at hlt
  go_enter Try.func23, Try.ntmps23
  go_wp2
  obtain ⟨W0, hW0⟩ : ∃ W0, W0 = (w.alloc (Obj.cells #[Value.int IntKind.i64 0, Value.int IntKind.i64 0, Value.int IntKind.i64 0, Value.int IntKind.u16 0] 52)).alloc (Obj.cells #[Value.int IntKind.u8 b1] 5) := ⟨_, rfl⟩
  have bW : Below w.heap.size w W0 := by
    rw [hW0]; exact balloc (balloc (Below.refl _ _) _) _
  have r0 := (own_new w #[Value.int IntKind.i64 0, Value.int IntKind.i64 0, Value.int IntKind.i64 0, Value.int IntKind.u16 0] 52).alloc (Obj.cells #[Value.int IntKind.u8 b1] 5)
  have s0 := own_new (w.alloc (Obj.cells #[Value.int IntKind.i64 0, Value.int IntKind.i64 0, Value.int IntKind.i64 0, Value.int IntKind.u16 0] 52)) #[Value.int IntKind.u8 b1] 5
  rw [World.size_alloc] at s0
  rw [← hW0] at r0 s0 ⊢
  have c0 := cell_below hc0 bW
  have c1 := cell_below hc1 bW
  have sc : W0.cell? ⟨w.heap.size + 1, 0, none⟩ = some (.int .u8 b1) := s0.cell 0
  clear hW0 hc0 hc1
  refine wp_loop_rounds 2 ?_
  simp only [rounds_succ]
  go_wp2_with (first
    | (go_at_call 41; refine (hG _).mono ?_; rintro e w1 ⟨rfl, hb1⟩)
    | (go_at_call 42; refine (hH _).mono ?_; rintro e w2 ⟨sl, rfl, hsl, hb2⟩; obtain rfl : sl = .slice none 0 0 := by (rcases hsl with ⟨he, h⟩ | ⟨he, _⟩; exact h; exact absurd rfl he)))
  have b01 : Below W0.heap.size W0 w2 := bthen hb2 hb1
  have b02 : Below w.heap.size w w2 := bthen b01 bW
  have r2 := r0.below b01
  have hz : w.heap.size < w2.heap.size := r2.lt
  obtain ⟨W2, hW2⟩ : ∃ W2, W2 = w2.alloc (Obj.cells #[Value.slice none 0 0, Value.int IntKind.i64 t] 94) := ⟨_, rfl⟩
  have b22 : Below w2.heap.size w2 W2 := by rw [hW2]; exact balloc (Below.refl _ _) _
  have h2 := own_new w2 #[Value.slice none 0 0, Value.int IntKind.i64 t] 94
  rw [← hW2] at h2 ⊢
  have r3 := r2.below b22
  have hd0 : W2.cell? ⟨w2.heap.size, 0, none⟩ = some (.slice none 0 0) := h2.cell 0
  have hd1 : W2.cell? ⟨w2.heap.size, 1, none⟩ = some (.int .i64 t) := h2.cell 1
  have hz2 : w2.heap.size < W2.heap.size := h2.lt
  have b03 : Below W0.heap.size W0 W2 := bthen b22 b01
  have bWW : Below w.heap.size w W2 := bthen b03 bW
  have q0 := own4 r3
  have qf0 := r3.frozen 0
  have qf1 := r3.frozen 1
  have qf2 := r3.frozen 2
  have qf3 := r3.frozen 3
  have e0 := cell_below c0 b03
  have e1 := cell_below c1 b03
  have se := cell_below sc b03
  clear hW2 b22 h2 r2 c0 c1 sc hsl hb1 hb2 hG hH r0 s0
  go_quiet (fail)
  go_wp2
  simp only [rounds_succ]
  go_wp2
  refine bodyPost_ret ?_ rfl ⟨rfl, ?_⟩
  · simp [results, Try.results23, go_sem, q0, hz]
  · exact bset (by simp) (bset (by simp) (bset (by simp) (bset (by simp) (bdrewN bWW _))))

set_option maxRecDepth 100000 in
set_option maxHeartbeats 2000000 in
theorem read_B1 (gb off n cap : Nat) (b0 b1 op d s x t : Int) (hG : Tells3 b0 b1 op d s) (hH : TellsH op d s [x] t) (w : World)
    (hn : (2 : Int) ≤ (n : Int)) (hn2 : n ≤ 1000) (hcap : (2 : Int) ≤ (cap : Int)) (hcap2 : (n : Int) ≤ (cap : Int)) (hx : ¬ x = b0)
    (hc0 : w.cell? ⟨gb, off, none⟩ = some (.int .u8 b0))
    (hc1 : w.cell? ⟨gb, off + 1, none⟩ = some (.int .u8 b1)) :
    Calls Try.prog 23 #[.slice (some ⟨gb, off, none⟩) n cap] w fun e w' => e = .returned (.tuple #[.agg #[.int .i64 0, .int .i64 0, .int .i64 0, .int .u16 0], .int .i64 0, .int .i64 12]) ∧ Below w.heap.size w w' := by
  have hlt := World.block_lt_of_cell? w _ hc0
  simp only at hlt
  go_enter Try.func23, Try.ntmps23
  go_wp2
  obtain ⟨W0, hW0⟩ : ∃ W0, W0 = (w.alloc (Obj.cells #[Value.int IntKind.i64 0, Value.int IntKind.i64 0, Value.int IntKind.i64 0, Value.int IntKind.u16 0] 52)).alloc (Obj.cells #[Value.int IntKind.u8 b1] 5) := ⟨_, rfl⟩
  have bW : Below w.heap.size w W0 := by
    rw [hW0]; exact balloc (balloc (Below.refl _ _) _) _
  have r0 := (own_new w #[Value.int IntKind.i64 0, Value.int IntKind.i64 0, Value.int IntKind.i64 0, Value.int IntKind.u16 0] 52).alloc (Obj.cells #[Value.int IntKind.u8 b1] 5)
  have s0 := own_new (w.alloc (Obj.cells #[Value.int IntKind.i64 0, Value.int IntKind.i64 0, Value.int IntKind.i64 0, Value.int IntKind.u16 0] 52)) #[Value.int IntKind.u8 b1] 5
  rw [World.size_alloc] at s0
  rw [← hW0] at r0 s0 ⊢
  have c0 := cell_below hc0 bW
  have c1 := cell_below hc1 bW
  have sc : W0.cell? ⟨w.heap.size + 1, 0, none⟩ = some (.int .u8 b1) := s0.cell 0
  clear hW0 hc0 hc1
  refine wp_loop_rounds 2 ?_
  simp only [rounds_succ]
  go_wp2_with (first
    | (go_at_call 41; refine (hG _).mono ?_; rintro e w1 ⟨rfl, hb1⟩)
    | (go_at_call 42; refine (hH _).mono ?_; rintro e w2 ⟨sl, rfl, hsl, hb2⟩; obtain ⟨g, rfl, hg, ho, hg2⟩ := isb_list hsl))
  have b01 : Below W0.heap.size W0 w2 := bthen hb2 hb1
  have b02 : Below w.heap.size w w2 := bthen b01 bW
  have r2 := r0.below b01
  have hz : w.heap.size < w2.heap.size := r2.lt
  obtain ⟨W2, hW2⟩ : ∃ W2, W2 = w2.alloc (Obj.cells #[Value.slice (some ⟨g, 0, none⟩) 1 1, Value.int IntKind.i64 t] 94) := ⟨_, rfl⟩
  have b22 : Below w2.heap.size w2 W2 := by rw [hW2]; exact balloc (Below.refl _ _) _
  have h2 := own_new w2 #[Value.slice (some ⟨g, 0, none⟩) 1 1, Value.int IntKind.i64 t] 94
  rw [← hW2] at h2 ⊢
  have r3 := r2.below b22
  have hd0 : W2.cell? ⟨w2.heap.size, 0, none⟩ = some (.slice (some ⟨g, 0, none⟩) 1 1) := h2.cell 0
  have hd1 : W2.cell? ⟨w2.heap.size, 1, none⟩ = some (.int .i64 t) := h2.cell 1
  have hz2 : w2.heap.size < W2.heap.size := h2.lt
  have b03 : Below W0.heap.size W0 W2 := bthen b22 b01
  have bWW : Below w.heap.size w W2 := bthen b03 bW
  have q0 := own4 r3
  have qf0 := r3.frozen 0
  have qf1 := r3.frozen 1
  have qf2 := r3.frozen 2
  have qf3 := r3.frozen 3
  have e0 := cell_below c0 b03
  have e1 := cell_below c1 b03
  have se := cell_below sc b03
  have og := ho.below b22
  have g0 : W2.cell? ⟨g, 0, none⟩ = some (.int .u8 x) := og.cell 0
  clear hW2 b22 h2 r2 c0 c1 sc hsl ho og hb1 hb2 hG hH r0 s0
  have EQ : ∀ k, Calls Try.prog 43 #[.slice (some ⟨g, 0, none⟩) 1 1, .slice (some ⟨gb, off, none⟩) 1 cap] (W2.drewN k) fun e w' => e = .returned (.bool false) ∧ ∃ m, w' = (W2.drewN k).drewN m := by
    intro k
    have h := equal_same g 0 1 gb off cap [x] [b0] (W2.drewN k) (by simp) rfl (sees1 g0) (sees1 e0)
    rw [show decide ([x] = [b0]) = false by simp; exact hx] at h
    exact h
  go_quiet ((go_at_call 43; refine Calls.quiet_of (EQ _)))
  go_wp2
  simp only [rounds_succ]
  go_wp2
  refine bodyPost_ret ?_ rfl ⟨rfl, ?_⟩
  · simp [results, Try.results23, go_sem, q0, hz]
  · exact bset (by simp) (bset (by simp) (bset (by simp) (bset (by simp) (bdrewN bWW _))))

set_option maxRecDepth 100000 in
set_option maxHeartbeats 2000000 in
theorem read_B2 (gb off n cap : Nat) (b0 b1 op d s x y t : Int) (hG : Tells3 b0 b1 op d s) (hH : TellsH op d s [x, y] t) (w : World)
    (hn : (2 : Int) ≤ (n : Int)) (hn2 : n ≤ 1000) (hcap : (2 : Int) ≤ (cap : Int)) (hcap2 : (n : Int) ≤ (cap : Int)) (hx : ¬ [x, y] = [b0, b1])
    (hc0 : w.cell? ⟨gb, off, none⟩ = some (.int .u8 b0))
    (hc1 : w.cell? ⟨gb, off + 1, none⟩ = some (.int .u8 b1)) :
    Calls Try.prog 23 #[.slice (some ⟨gb, off, none⟩) n cap] w fun e w' => e = .returned (.tuple #[.agg #[.int .i64 0, .int .i64 0, .int .i64 0, .int .u16 0], .int .i64 0, .int .i64 12]) ∧ Below w.heap.size w w' := by
  have hlt := World.block_lt_of_cell? w _ hc0
  simp only at hlt
  go_enter Try.func23, Try.ntmps23
  go_wp2
  obtain ⟨W0, hW0⟩ : ∃ W0, W0 = (w.alloc (Obj.cells #[Value.int IntKind.i64 0, Value.int IntKind.i64 0, Value.int IntKind.i64 0, Value.int IntKind.u16 0] 52)).alloc (Obj.cells #[Value.int IntKind.u8 b1] 5) := ⟨_, rfl⟩
  have bW : Below w.heap.size w W0 := by
    rw [hW0]; exact balloc (balloc (Below.refl _ _) _) _
  have r0 := (own_new w #[Value.int IntKind.i64 0, Value.int IntKind.i64 0, Value.int IntKind.i64 0, Value.int IntKind.u16 0] 52).alloc (Obj.cells #[Value.int IntKind.u8 b1] 5)
  have s0 := own_new (w.alloc (Obj.cells #[Value.int IntKind.i64 0, Value.int IntKind.i64 0, Value.int IntKind.i64 0, Value.int IntKind.u16 0] 52)) #[Value.int IntKind.u8 b1] 5
  rw [World.size_alloc] at s0
  rw [← hW0] at r0 s0 ⊢
  have c0 := cell_below hc0 bW
  have c1 := cell_below hc1 bW
  have sc : W0.cell? ⟨w.heap.size + 1, 0, none⟩ = some (.int .u8 b1) := s0.cell 0
  clear hW0 hc0 hc1
  refine wp_loop_rounds 2 ?_
  simp only [rounds_succ]
  go_wp2_with (first
    | (go_at_call 41; refine (hG _).mono ?_; rintro e w1 ⟨rfl, hb1⟩)
    | (go_at_call 42; refine (hH _).mono ?_; rintro e w2 ⟨sl, rfl, hsl, hb2⟩; obtain ⟨g, rfl, hg, ho, hg2⟩ := isb_list hsl))
  have b01 : Below W0.heap.size W0 w2 := bthen hb2 hb1
  have b02 : Below w.heap.size w w2 := bthen b01 bW
  have r2 := r0.below b01
  have hz : w.heap.size < w2.heap.size := r2.lt
  obtain ⟨W2, hW2⟩ : ∃ W2, W2 = w2.alloc (Obj.cells #[Value.slice (some ⟨g, 0, none⟩) 2 2, Value.int IntKind.i64 t] 94) := ⟨_, rfl⟩
  have b22 : Below w2.heap.size w2 W2 := by rw [hW2]; exact balloc (Below.refl _ _) _
  have h2 := own_new w2 #[Value.slice (some ⟨g, 0, none⟩) 2 2, Value.int IntKind.i64 t] 94
  rw [← hW2] at h2 ⊢
  have r3 := r2.below b22
  have hd0 : W2.cell? ⟨w2.heap.size, 0, none⟩ = some (.slice (some ⟨g, 0, none⟩) 2 2) := h2.cell 0
  have hd1 : W2.cell? ⟨w2.heap.size, 1, none⟩ = some (.int .i64 t) := h2.cell 1
  have hz2 : w2.heap.size < W2.heap.size := h2.lt
  have b03 : Below W0.heap.size W0 W2 := bthen b22 b01
  have bWW : Below w.heap.size w W2 := bthen b03 bW
  have q0 := own4 r3
  have qf0 := r3.frozen 0
  have qf1 := r3.frozen 1
  have qf2 := r3.frozen 2
  have qf3 := r3.frozen 3
  have e0 := cell_below c0 b03
  have e1 := cell_below c1 b03
  have se := cell_below sc b03
  have og := ho.below b22
  have g0 : W2.cell? ⟨g, 0, none⟩ = some (.int .u8 x) := og.cell 0
  have g1 : W2.cell? ⟨g, 1, none⟩ = some (.int .u8 y) := og.cell 1
  clear hW2 b22 h2 r2 c0 c1 sc hsl ho og hb1 hb2 hG hH r0 s0
  have EQ : ∀ k, Calls Try.prog 43 #[.slice (some ⟨g, 0, none⟩) 2 2, .slice (some ⟨gb, off, none⟩) 2 cap] (W2.drewN k) fun e w' => e = .returned (.bool false) ∧ ∃ m, w' = (W2.drewN k).drewN m := by
    intro k
    have h := equal_same g 0 2 gb off cap [x, y] [b0, b1] (W2.drewN k) (by simp) rfl (sees2 g0 g1) (sees2 e0 e1)
    rw [show decide ([x, y] = [b0, b1]) = false by exact decide_eq_false hx] at h
    exact h
  go_quiet ((go_at_call 43; refine Calls.quiet_of (EQ _)))
  go_wp2
  simp only [rounds_succ]
  go_wp2
  refine bodyPost_ret ?_ rfl ⟨rfl, ?_⟩
  · simp [results, Try.results23, go_sem, q0, hz]
  · exact bset (by simp) (bset (by simp) (bset (by simp) (bset (by simp) (bdrewN bWW _))))

set_option maxRecDepth 100000 in
set_option maxHeartbeats 2000000 in
theorem read_S12 (gb off n cap : Nat) (b0 b1 op d s : Int) (hG : Tells3 b0 b1 op d s) (hH : TellsH op d s [b0] 2) (w : World)
    (hn : (2 : Int) ≤ (n : Int)) (hn2 : n ≤ 1000) (hcap : (2 : Int) ≤ (cap : Int)) (hcap2 : (n : Int) ≤ (cap : Int)) (hs : (n : Int) < 3)
    (hc0 : w.cell? ⟨gb, off, none⟩ = some (.int .u8 b0))
    (hc1 : w.cell? ⟨gb, off + 1, none⟩ = some (.int .u8 b1)) :
    Calls Try.prog 23 #[.slice (some ⟨gb, off, none⟩) n cap] w fun e w' => e = .returned (.tuple #[.agg #[.int .i64 0, .int .i64 0, .int .i64 0, .int .u16 0], .int .i64 0, .int .i64 2]) ∧ Below w.heap.size w w' := by
  have hlt := World.block_lt_of_cell? w _ hc0
  simp only at hlt
  go_enter Try.func23, Try.ntmps23
  go_wp2
  obtain ⟨W0, hW0⟩ : ∃ W0, W0 = (w.alloc (Obj.cells #[Value.int IntKind.i64 0, Value.int IntKind.i64 0, Value.int IntKind.i64 0, Value.int IntKind.u16 0] 52)).alloc (Obj.cells #[Value.int IntKind.u8 b1] 5) := ⟨_, rfl⟩
  have bW : Below w.heap.size w W0 := by
    rw [hW0]; exact balloc (balloc (Below.refl _ _) _) _
  have r0 := (own_new w #[Value.int IntKind.i64 0, Value.int IntKind.i64 0, Value.int IntKind.i64 0, Value.int IntKind.u16 0] 52).alloc (Obj.cells #[Value.int IntKind.u8 b1] 5)
  have s0 := own_new (w.alloc (Obj.cells #[Value.int IntKind.i64 0, Value.int IntKind.i64 0, Value.int IntKind.i64 0, Value.int IntKind.u16 0] 52)) #[Value.int IntKind.u8 b1] 5
  rw [World.size_alloc] at s0
  rw [← hW0] at r0 s0 ⊢
  have c0 := cell_below hc0 bW
  have c1 := cell_below hc1 bW
  have sc : W0.cell? ⟨w.heap.size + 1, 0, none⟩ = some (.int .u8 b1) := s0.cell 0
  clear hW0 hc0 hc1
  refine wp_loop_rounds 2 ?_
  simp only [rounds_succ]
  go_wp2_with (first
    | (go_at_call 41; refine (hG _).mono ?_; rintro e w1 ⟨rfl, hb1⟩)
    | (go_at_call 42; refine (hH _).mono ?_; rintro e w2 ⟨sl, rfl, hsl, hb2⟩; obtain ⟨g, rfl, hg, ho, hg2⟩ := isb_list hsl))
  have b01 : Below W0.heap.size W0 w2 := bthen hb2 hb1
  have b02 : Below w.heap.size w w2 := bthen b01 bW
  have r2 := r0.below b01
  have hz : w.heap.size < w2.heap.size := r2.lt
  obtain ⟨W2, hW2⟩ : ∃ W2, W2 = w2.alloc (Obj.cells #[Value.slice (some ⟨g, 0, none⟩) 1 1, Value.int IntKind.i64 2] 94) := ⟨_, rfl⟩
  have b22 : Below w2.heap.size w2 W2 := by rw [hW2]; exact balloc (Below.refl _ _) _
  have h2 := own_new w2 #[Value.slice (some ⟨g, 0, none⟩) 1 1, Value.int IntKind.i64 2] 94
  rw [← hW2] at h2 ⊢
  have r3 := r2.below b22
  have hd0 : W2.cell? ⟨w2.heap.size, 0, none⟩ = some (.slice (some ⟨g, 0, none⟩) 1 1) := h2.cell 0
  have hd1 : W2.cell? ⟨w2.heap.size, 1, none⟩ = some (.int .i64 2) := h2.cell 1
  have hz2 : w2.heap.size < W2.heap.size := h2.lt
  have b03 : Below W0.heap.size W0 W2 := bthen b22 b01
  have bWW : Below w.heap.size w W2 := bthen b03 bW
  have q0 := own4 r3
  have qf0 := r3.frozen 0
  have qf1 := r3.frozen 1
  have qf2 := r3.frozen 2
  have qf3 := r3.frozen 3
  have e0 := cell_below c0 b03
  have e1 := cell_below c1 b03
  have se := cell_below sc b03
  have og := ho.below b22
  have g0 : W2.cell? ⟨g, 0, none⟩ = some (.int .u8 b0) := og.cell 0
  clear hW2 b22 h2 r2 c0 c1 sc hsl ho og hb1 hb2 hG hH r0 s0
  have EQ : ∀ k, Calls Try.prog 43 #[.slice (some ⟨g, 0, none⟩) 1 1, .slice (some ⟨gb, off, none⟩) 1 cap] (W2.drewN k) fun e w' => e = .returned (.bool true) ∧ ∃ m, w' = (W2.drewN k).drewN m := by
    intro k
    have h := equal_same g 0 1 gb off cap [b0] [b0] (W2.drewN k) (by simp) rfl (sees1 g0) (sees1 e0)
    rw [show decide ([b0] = [b0]) = true by simp] at h
    exact h
  go_quiet ((go_at_call 43; refine Calls.quiet_of (EQ _)))
  go_wp2_with (first | (go_at_call 44; refine (size_2 _ 1 1 (by omega) _).mono ?_; rintro e w3 ⟨rfl, hb3⟩; have r4 := (r3.drewN nq).below hb3; have q4 := own4 r4; have qf0 := r4.frozen 0; have qf1 := r4.frozen 1; have qf2 := r4.frozen 2; have qf3 := r4.frozen 3))
  refine bodyPost_ret ?_ rfl ⟨rfl, ?_⟩
  · simp [results, Try.results23, go_sem, q4, hz, r4.lt]
  · exact bset (by simp) (bset (by simp) (bset (by simp) (bset (by simp) (bthen hb3 (bdrewN bWW _)))))

set_option maxRecDepth 100000 in
set_option maxHeartbeats 2000000 in
theorem read_S21 (gb off n cap : Nat) (b0 b1 op d s : Int) (hG : Tells3 b0 b1 op d s) (hH : TellsH op d s [b0, b1] 1) (w : World)
    (hn : (2 : Int) ≤ (n : Int)) (hn2 : n ≤ 1000) (hcap : (2 : Int) ≤ (cap : Int)) (hcap2 : (n : Int) ≤ (cap : Int)) (hs : (n : Int) < 3)
    (hc0 : w.cell? ⟨gb, off, none⟩ = some (.int .u8 b0))
    (hc1 : w.cell? ⟨gb, off + 1, none⟩ = some (.int .u8 b1)) :
    Calls Try.prog 23 #[.slice (some ⟨gb, off, none⟩) n cap] w fun e w' => e = .returned (.tuple #[.agg #[.int .i64 0, .int .i64 0, .int .i64 0, .int .u16 0], .int .i64 0, .int .i64 2]) ∧ Below w.heap.size w w' := by
  have hlt := World.block_lt_of_cell? w _ hc0
  simp only at hlt
  go_enter Try.func23, Try.ntmps23
  go_wp2
  obtain ⟨W0, hW0⟩ : ∃ W0, W0 = (w.alloc (Obj.cells #[Value.int IntKind.i64 0, Value.int IntKind.i64 0, Value.int IntKind.i64 0, Value.int IntKind.u16 0] 52)).alloc (Obj.cells #[Value.int IntKind.u8 b1] 5) := ⟨_, rfl⟩
  have bW : Below w.heap.size w W0 := by
    rw [hW0]; exact balloc (balloc (Below.refl _ _) _) _
  have r0 := (own_new w #[Value.int IntKind.i64 0, Value.int IntKind.i64 0, Value.int IntKind.i64 0, Value.int IntKind.u16 0] 52).alloc (Obj.cells #[Value.int IntKind.u8 b1] 5)
  have s0 := own_new (w.alloc (Obj.cells #[Value.int IntKind.i64 0, Value.int IntKind.i64 0, Value.int IntKind.i64 0, Value.int IntKind.u16 0] 52)) #[Value.int IntKind.u8 b1] 5
  rw [World.size_alloc] at s0
  rw [← hW0] at r0 s0 ⊢
  have c0 := cell_below hc0 bW
  have c1 := cell_below hc1 bW
  have sc : W0.cell? ⟨w.heap.size + 1, 0, none⟩ = some (.int .u8 b1) := s0.cell 0
  clear hW0 hc0 hc1
  refine wp_loop_rounds 2 ?_
  simp only [rounds_succ]
  go_wp2_with (first
    | (go_at_call 41; refine (hG _).mono ?_; rintro e w1 ⟨rfl, hb1⟩)
    | (go_at_call 42; refine (hH _).mono ?_; rintro e w2 ⟨sl, rfl, hsl, hb2⟩; obtain ⟨g, rfl, hg, ho, hg2⟩ := isb_list hsl))
  have b01 : Below W0.heap.size W0 w2 := bthen hb2 hb1
  have b02 : Below w.heap.size w w2 := bthen b01 bW
  have r2 := r0.below b01
  have hz : w.heap.size < w2.heap.size := r2.lt
  obtain ⟨W2, hW2⟩ : ∃ W2, W2 = w2.alloc (Obj.cells #[Value.slice (some ⟨g, 0, none⟩) 2 2, Value.int IntKind.i64 1] 94) := ⟨_, rfl⟩
  have b22 : Below w2.heap.size w2 W2 := by rw [hW2]; exact balloc (Below.refl _ _) _
  have h2 := own_new w2 #[Value.slice (some ⟨g, 0, none⟩) 2 2, Value.int IntKind.i64 1] 94
  rw [← hW2] at h2 ⊢
  have r3 := r2.below b22
  have hd0 : W2.cell? ⟨w2.heap.size, 0, none⟩ = some (.slice (some ⟨g, 0, none⟩) 2 2) := h2.cell 0
  have hd1 : W2.cell? ⟨w2.heap.size, 1, none⟩ = some (.int .i64 1) := h2.cell 1
  have hz2 : w2.heap.size < W2.heap.size := h2.lt
  have b03 : Below W0.heap.size W0 W2 := bthen b22 b01
  have bWW : Below w.heap.size w W2 := bthen b03 bW
  have q0 := own4 r3
  have qf0 := r3.frozen 0
  have qf1 := r3.frozen 1
  have qf2 := r3.frozen 2
  have qf3 := r3.frozen 3
  have e0 := cell_below c0 b03
  have e1 := cell_below c1 b03
  have se := cell_below sc b03
  have og := ho.below b22
  have g0 : W2.cell? ⟨g, 0, none⟩ = some (.int .u8 b0) := og.cell 0
  have g1 : W2.cell? ⟨g, 1, none⟩ = some (.int .u8 b1) := og.cell 1
  clear hW2 b22 h2 r2 c0 c1 sc hsl ho og hb1 hb2 hG hH r0 s0
  have EQ : ∀ k, Calls Try.prog 43 #[.slice (some ⟨g, 0, none⟩) 2 2, .slice (some ⟨gb, off, none⟩) 2 cap] (W2.drewN k) fun e w' => e = .returned (.bool true) ∧ ∃ m, w' = (W2.drewN k).drewN m := by
    intro k
    have h := equal_same g 0 2 gb off cap [b0, b1] [b0, b1] (W2.drewN k) (by simp) rfl (sees2 g0 g1) (sees2 e0 e1)
    rw [show decide ([b0, b1] = [b0, b1]) = true by simp] at h
    exact h
  go_quiet ((go_at_call 43; refine Calls.quiet_of (EQ _)))
  go_wp2_with (first | (go_at_call 44; refine (size_1 _ 2 2 (by omega) _).mono ?_; rintro e w3 ⟨rfl, hb3⟩; have r4 := (r3.drewN nq).below hb3; have q4 := own4 r4; have qf0 := r4.frozen 0; have qf1 := r4.frozen 1; have qf2 := r4.frozen 2; have qf3 := r4.frozen 3))
  refine bodyPost_ret ?_ rfl ⟨rfl, ?_⟩
  · simp [results, Try.results23, go_sem, q4, hz, r4.lt]
  · exact bset (by simp) (bset (by simp) (bset (by simp) (bset (by simp) (bthen hb3 (bdrewN bWW _)))))

set_option maxRecDepth 100000 in
set_option maxHeartbeats 2000000 in
theorem read_S23 (gb off n cap : Nat) (b0 b1 op d s : Int) (hG : Tells3 b0 b1 op d s) (hH : TellsH op d s [b0, b1] 3) (w : World)
    (hn : (2 : Int) ≤ (n : Int)) (hn2 : n ≤ 1000) (hcap : (2 : Int) ≤ (cap : Int)) (hcap2 : (n : Int) ≤ (cap : Int)) (hs : (n : Int) < 3)
    (hc0 : w.cell? ⟨gb, off, none⟩ = some (.int .u8 b0))
    (hc1 : w.cell? ⟨gb, off + 1, none⟩ = some (.int .u8 b1)) :
    Calls Try.prog 23 #[.slice (some ⟨gb, off, none⟩) n cap] w fun e w' => e = .returned (.tuple #[.agg #[.int .i64 0, .int .i64 0, .int .i64 0, .int .u16 0], .int .i64 0, .int .i64 2]) ∧ Below w.heap.size w w' := by
  have hlt := World.block_lt_of_cell? w _ hc0
  simp only at hlt
  go_enter Try.func23, Try.ntmps23
  go_wp2
  obtain ⟨W0, hW0⟩ : ∃ W0, W0 = (w.alloc (Obj.cells #[Value.int IntKind.i64 0, Value.int IntKind.i64 0, Value.int IntKind.i64 0, Value.int IntKind.u16 0] 52)).alloc (Obj.cells #[Value.int IntKind.u8 b1] 5) := ⟨_, rfl⟩
  have bW : Below w.heap.size w W0 := by
    rw [hW0]; exact balloc (balloc (Below.refl _ _) _) _
  have r0 := (own_new w #[Value.int IntKind.i64 0, Value.int IntKind.i64 0, Value.int IntKind.i64 0, Value.int IntKind.u16 0] 52).alloc (Obj.cells #[Value.int IntKind.u8 b1] 5)
  have s0 := own_new (w.alloc (Obj.cells #[Value.int IntKind.i64 0, Value.int IntKind.i64 0, Value.int IntKind.i64 0, Value.int IntKind.u16 0] 52)) #[Value.int IntKind.u8 b1] 5
  rw [World.size_alloc] at s0
  rw [← hW0] at r0 s0 ⊢
  have c0 := cell_below hc0 bW
  have c1 := cell_below hc1 bW
  have sc : W0.cell? ⟨w.heap.size + 1, 0, none⟩ = some (.int .u8 b1) := s0.cell 0
  clear hW0 hc0 hc1
  refine wp_loop_rounds 2 ?_
  simp only [rounds_succ]
  go_wp2_with (first
    | (go_at_call 41; refine (hG _).mono ?_; rintro e w1 ⟨rfl, hb1⟩)
    | (go_at_call 42; refine (hH _).mono ?_; rintro e w2 ⟨sl, rfl, hsl, hb2⟩; obtain ⟨g, rfl, hg, ho, hg2⟩ := isb_list hsl))
  have b01 : Below W0.heap.size W0 w2 := bthen hb2 hb1
  have b02 : Below w.heap.size w w2 := bthen b01 bW
  have r2 := r0.below b01
  have hz : w.heap.size < w2.heap.size := r2.lt
  obtain ⟨W2, hW2⟩ : ∃ W2, W2 = w2.alloc (Obj.cells #[Value.slice (some ⟨g, 0, none⟩) 2 2, Value.int IntKind.i64 3] 94) := ⟨_, rfl⟩
  have b22 : Below w2.heap.size w2 W2 := by rw [hW2]; exact balloc (Below.refl _ _) _
  have h2 := own_new w2 #[Value.slice (some ⟨g, 0, none⟩) 2 2, Value.int IntKind.i64 3] 94
  rw [← hW2] at h2 ⊢
  have r3 := r2.below b22
  have hd0 : W2.cell? ⟨w2.heap.size, 0, none⟩ = some (.slice (some ⟨g, 0, none⟩) 2 2) := h2.cell 0
  have hd1 : W2.cell? ⟨w2.heap.size, 1, none⟩ = some (.int .i64 3) := h2.cell 1
  have hz2 : w2.heap.size < W2.heap.size := h2.lt
  have b03 : Below W0.heap.size W0 W2 := bthen b22 b01
  have bWW : Below w.heap.size w W2 := bthen b03 bW
  have q0 := own4 r3
  have qf0 := r3.frozen 0
  have qf1 := r3.frozen 1
  have qf2 := r3.frozen 2
  have qf3 := r3.frozen 3
  have e0 := cell_below c0 b03
  have e1 := cell_below c1 b03
  have se := cell_below sc b03
  have og := ho.below b22
  have g0 : W2.cell? ⟨g, 0, none⟩ = some (.int .u8 b0) := og.cell 0
  have g1 : W2.cell? ⟨g, 1, none⟩ = some (.int .u8 b1) := og.cell 1
  clear hW2 b22 h2 r2 c0 c1 sc hsl ho og hb1 hb2 hG hH r0 s0
  have EQ : ∀ k, Calls Try.prog 43 #[.slice (some ⟨g, 0, none⟩) 2 2, .slice (some ⟨gb, off, none⟩) 2 cap] (W2.drewN k) fun e w' => e = .returned (.bool true) ∧ ∃ m, w' = (W2.drewN k).drewN m := by
    intro k
    have h := equal_same g 0 2 gb off cap [b0, b1] [b0, b1] (W2.drewN k) (by simp) rfl (sees2 g0 g1) (sees2 e0 e1)
    rw [show decide ([b0, b1] = [b0, b1]) = true by simp] at h
    exact h
  go_quiet ((go_at_call 43; refine Calls.quiet_of (EQ _)))
  go_wp2_with (first | (go_at_call 44; refine (size_3 _ 2 2 (by omega) _).mono ?_; rintro e w3 ⟨rfl, hb3⟩; have r4 := (r3.drewN nq).below hb3; have q4 := own4 r4; have qf0 := r4.frozen 0; have qf1 := r4.frozen 1; have qf2 := r4.frozen 2; have qf3 := r4.frozen 3))
  refine bodyPost_ret ?_ rfl ⟨rfl, ?_⟩
  · simp [results, Try.results23, go_sem, q4, hz, r4.lt]
  · exact bset (by simp) (bset (by simp) (bset (by simp) (bset (by simp) (bthen hb3 (bdrewN bWW _)))))

set_option maxRecDepth 100000 in
set_option maxHeartbeats 2000000 in
theorem read_S22 (gb off n cap : Nat) (b0 b1 op d s : Int) (hG : Tells3 b0 b1 op d s) (hH : TellsH op d s [b0, b1] 2) (w : World)
    (hn : (2 : Int) ≤ (n : Int)) (hn2 : n ≤ 1000) (hcap : (2 : Int) ≤ (cap : Int)) (hcap2 : (n : Int) ≤ (cap : Int)) (hs : (n : Int) < 4)
    (hc0 : w.cell? ⟨gb, off, none⟩ = some (.int .u8 b0))
    (hc1 : w.cell? ⟨gb, off + 1, none⟩ = some (.int .u8 b1)) :
    Calls Try.prog 23 #[.slice (some ⟨gb, off, none⟩) n cap] w fun e w' => e = .returned (.tuple #[.agg #[.int .i64 0, .int .i64 0, .int .i64 0, .int .u16 0], .int .i64 0, .int .i64 2]) ∧ Below w.heap.size w w' := by
  have hlt := World.block_lt_of_cell? w _ hc0
  simp only at hlt
  go_enter Try.func23, Try.ntmps23
  go_wp2
  obtain ⟨W0, hW0⟩ : ∃ W0, W0 = (w.alloc (Obj.cells #[Value.int IntKind.i64 0, Value.int IntKind.i64 0, Value.int IntKind.i64 0, Value.int IntKind.u16 0] 52)).alloc (Obj.cells #[Value.int IntKind.u8 b1] 5) := ⟨_, rfl⟩
  have bW : Below w.heap.size w W0 := by
    rw [hW0]; exact balloc (balloc (Below.refl _ _) _) _
  have r0 := (own_new w #[Value.int IntKind.i64 0, Value.int IntKind.i64 0, Value.int IntKind.i64 0, Value.int IntKind.u16 0] 52).alloc (Obj.cells #[Value.int IntKind.u8 b1] 5)
  have s0 := own_new (w.alloc (Obj.cells #[Value.int IntKind.i64 0, Value.int IntKind.i64 0, Value.int IntKind.i64 0, Value.int IntKind.u16 0] 52)) #[Value.int IntKind.u8 b1] 5
  rw [World.size_alloc] at s0
  rw [← hW0] at r0 s0 ⊢
  have c0 := cell_below hc0 bW
  have c1 := cell_below hc1 bW
  have sc : W0.cell? ⟨w.heap.size + 1, 0, none⟩ = some (.int .u8 b1) := s0.cell 0
  clear hW0 hc0 hc1
  refine wp_loop_rounds 2 ?_
  simp only [rounds_succ]
  go_wp2_with (first
    | (go_at_call 41; refine (hG _).mono ?_; rintro e w1 ⟨rfl, hb1⟩)
    | (go_at_call 42; refine (hH _).mono ?_; rintro e w2 ⟨sl, rfl, hsl, hb2⟩; obtain ⟨g, rfl, hg, ho, hg2⟩ := isb_list hsl))
  have b01 : Below W0.heap.size W0 w2 := bthen hb2 hb1
  have b02 : Below w.heap.size w w2 := bthen b01 bW
  have r2 := r0.below b01
  have hz : w.heap.size < w2.heap.size := r2.lt
  obtain ⟨W2, hW2⟩ : ∃ W2, W2 = w2.alloc (Obj.cells #[Value.slice (some ⟨g, 0, none⟩) 2 2, Value.int IntKind.i64 2] 94) := ⟨_, rfl⟩
  have b22 : Below w2.heap.size w2 W2 := by rw [hW2]; exact balloc (Below.refl _ _) _
  have h2 := own_new w2 #[Value.slice (some ⟨g, 0, none⟩) 2 2, Value.int IntKind.i64 2] 94
  rw [← hW2] at h2 ⊢
  have r3 := r2.below b22
  have hd0 : W2.cell? ⟨w2.heap.size, 0, none⟩ = some (.slice (some ⟨g, 0, none⟩) 2 2) := h2.cell 0
  have hd1 : W2.cell? ⟨w2.heap.size, 1, none⟩ = some (.int .i64 2) := h2.cell 1
  have hz2 : w2.heap.size < W2.heap.size := h2.lt
  have b03 : Below W0.heap.size W0 W2 := bthen b22 b01
  have bWW : Below w.heap.size w W2 := bthen b03 bW
  have q0 := own4 r3
  have qf0 := r3.frozen 0
  have qf1 := r3.frozen 1
  have qf2 := r3.frozen 2
  have qf3 := r3.frozen 3
  have e0 := cell_below c0 b03
  have e1 := cell_below c1 b03
  have se := cell_below sc b03
  have og := ho.below b22
  have g0 : W2.cell? ⟨g, 0, none⟩ = some (.int .u8 b0) := og.cell 0
  have g1 : W2.cell? ⟨g, 1, none⟩ = some (.int .u8 b1) := og.cell 1
  clear hW2 b22 h2 r2 c0 c1 sc hsl ho og hb1 hb2 hG hH r0 s0
  have EQ : ∀ k, Calls Try.prog 43 #[.slice (some ⟨g, 0, none⟩) 2 2, .slice (some ⟨gb, off, none⟩) 2 cap] (W2.drewN k) fun e w' => e = .returned (.bool true) ∧ ∃ m, w' = (W2.drewN k).drewN m := by
    intro k
    have h := equal_same g 0 2 gb off cap [b0, b1] [b0, b1] (W2.drewN k) (by simp) rfl (sees2 g0 g1) (sees2 e0 e1)
    rw [show decide ([b0, b1] = [b0, b1]) = true by simp] at h
    exact h
  go_quiet ((go_at_call 43; refine Calls.quiet_of (EQ _)))
  go_wp2_with (first | (go_at_call 44; refine (size_2 _ 2 2 (by omega) _).mono ?_; rintro e w3 ⟨rfl, hb3⟩; have r4 := (r3.drewN nq).below hb3; have q4 := own4 r4; have qf0 := r4.frozen 0; have qf1 := r4.frozen 1; have qf2 := r4.frozen 2; have qf3 := r4.frozen 3))
  refine bodyPost_ret ?_ rfl ⟨rfl, ?_⟩
  · simp [results, Try.results23, go_sem, q4, hz, r4.lt]
  · exact bset (by simp) (bset (by simp) (bset (by simp) (bset (by simp) (bthen hb3 (bdrewN bWW _)))))

end Go.Proofs.Ytbhkndblolegaaa
