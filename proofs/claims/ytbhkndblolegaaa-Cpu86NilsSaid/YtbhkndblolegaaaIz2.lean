/- The walk of isa86.Read: the instruction that is told. -/
import Derived.Test.YtbhkndblolegaaaIz
import Derived.Test.YtbhkndblolegaaaPb
namespace Go.Proofs.Ytbhkndblolegaaa
open Go.RowKit
set_option linter.unusedVariables false
set_option linter.unusedSimpArgs false

set_option maxRecDepth 100000 in
set_option maxHeartbeats 2000000 in
theorem read_O12 (gb off n cap : Nat) (b0 b1 b2 op d s : Int) (hG : Tells3 b0 b1 op d s) (hH : TellsH op d s [b0] 2) (w : World)
    (hn : (2 : Int) ≤ (n : Int)) (hn2 : n ≤ 1000) (hcap : (2 : Int) ≤ (cap : Int)) (hcap2 : (n : Int) ≤ (cap : Int)) (hs : (3 : Int) ≤ (n : Int)) (lo1 : 0 ≤ b1) (hi1 : b1 ≤ 255) (lo2 : 0 ≤ b2) (hi2 : b2 ≤ 255)
    (hc0 : w.cell? ⟨gb, off, none⟩ = some (.int .u8 b0))
    (hc1 : w.cell? ⟨gb, off + 1, none⟩ = some (.int .u8 b1))
    (hc2 : w.cell? ⟨gb, off + 2, none⟩ = some (.int .u8 b2)) :
    Calls Try.prog 23 #[.slice (some ⟨gb, off, none⟩) n cap] w fun e w' => e = .returned (.tuple #[.agg #[.int .i64 op, .int .i64 d, .int .i64 s, .int .u16 (b1 + b2 * 256)], .int .i64 3, .int .i64 0]) ∧ Below w.heap.size w w' := by
  have hlt := World.block_lt_of_cell? w _ hc0
  simp only at hlt
  have hk : (3 : Int) ≤ (cap : Int) := by omega
  have hwL : IntKind.i64.wrap 1 = 1 := by decide
  have hwS : IntKind.i64.wrap 3 = 3 := by decide
  go_enter Try.func23, Try.ntmps23
  go_wp2
  obtain ⟨W0, hW0⟩ : ∃ W0, W0 = (w.alloc (Obj.cells #[Value.int IntKind.i64 0, Value.int IntKind.i64 0, Value.int IntKind.i64 0, Value.int IntKind.u16 0] 52)).alloc (Obj.cells #[Value.int IntKind.u8 b1] 5) := ⟨_, rfl⟩
  have bW : Below w.heap.size w W0 := by
    rw [hW0]; exact balloc (balloc (Below.refl _ _) _) _
  have r0 := (own_new w #[Value.int IntKind.i64 0, Value.int IntKind.i64 0, Value.int IntKind.i64 0, Value.int IntKind.u16 0] 52).alloc (Obj.cells #[Value.int IntKind.u8 b1] 5)
  have s0 := own_new (w.alloc (Obj.cells #[Value.int IntKind.i64 0, Value.int IntKind.i64 0, Value.int IntKind.i64 0, Value.int IntKind.u16 0] 52)) #[Value.int IntKind.u8 b1] 5
  rw [World.size_alloc] at s0
  rw [← hW0] at r0 s0 ⊢
  have c0 := cell_below hc0 bW
  have c1 := cell_below hc1 bW
  have c2 := cell_below hc2 bW
  have sc : W0.cell? ⟨w.heap.size + 1, 0, none⟩ = some (.int .u8 b1) := s0.cell 0
  clear hW0 hc0 hc1 hc2
  refine wp_loop_rounds 2 ?_
  simp only [rounds_succ]
  go_wp2_with (first
    | (go_at_call 41; refine (hG _).mono ?_; rintro e w1 ⟨rfl, hb1⟩)
    | (go_at_call 42; refine (hH _).mono ?_; rintro e w2 ⟨sl, rfl, hsl, hb2⟩; obtain ⟨g, rfl, hg, ho, hg2⟩ := isb_list hsl))
  have b01 : Below W0.heap.size W0 w2 := bthen hb2 hb1
  have b02 : Below w.heap.size w w2 := bthen b01 bW
  have r2 := r0.below b01
  have hz : w.heap.size < w2.heap.size := r2.lt
  obtain ⟨W2, hW2⟩ : ∃ W2, W2 = w2.alloc (Obj.cells #[Value.slice (some ⟨g, 0, none⟩) 1 1, Value.int IntKind.i64 2] 94) := ⟨_, rfl⟩
  have b22 : Below w2.heap.size w2 W2 := by rw [hW2]; exact balloc (Below.refl _ _) _
  have h2 := own_new w2 #[Value.slice (some ⟨g, 0, none⟩) 1 1, Value.int IntKind.i64 2] 94
  rw [← hW2] at h2 ⊢
  have r3 := r2.below b22
  have hd0 : W2.cell? ⟨w2.heap.size, 0, none⟩ = some (.slice (some ⟨g, 0, none⟩) 1 1) := h2.cell 0
  have hd1 : W2.cell? ⟨w2.heap.size, 1, none⟩ = some (.int .i64 2) := h2.cell 1
  have hz2 : w2.heap.size < W2.heap.size := h2.lt
  have b03 : Below W0.heap.size W0 W2 := bthen b22 b01
  have bWW : Below w.heap.size w W2 := bthen b03 bW
  have q0 := own4 r3
  have qf0 := r3.frozen 0
  have qf1 := r3.frozen 1
  have qf2 := r3.frozen 2
  have qf3 := r3.frozen 3
  have e0 := cell_below c0 b03
  have e1 := cell_below c1 b03
  have e2 := cell_below c2 b03
  have se := cell_below sc b03
  have og := ho.below b22
  have g0 : W2.cell? ⟨g, 0, none⟩ = some (.int .u8 b0) := og.cell 0
  clear hW2 b22 r2 c0 c1 sc hsl ho og hb1 hb2 hG hH r0 s0
  have EQ : ∀ k, Calls Try.prog 43 #[.slice (some ⟨g, 0, none⟩) 1 1, .slice (some ⟨gb, off, none⟩) 1 cap] (W2.drewN k) fun e w' => e = .returned (.bool true) ∧ ∃ m, w' = (W2.drewN k).drewN m := by
    intro k
    have h := equal_same g 0 1 gb off cap [b0] [b0] (W2.drewN k) (by simp) rfl (sees1 g0) (sees1 e0)
    rw [show decide ([b0] = [b0]) = true by simp] at h
    exact h
  go_quiet ((go_at_call 43; refine Calls.quiet_of (EQ _)))
  go_wp2_with (first | (go_at_call 44; refine (size_2 _ 1 1 (by omega) _).mono ?_; rintro e w3 ⟨rfl, hb3⟩; have r4 := (r3.drewN nq).below hb3; have q4 := own4 r4; have qf0 := r4.frozen 0; have qf1 := r4.frozen 1; have qf2 := r4.frozen 2; have qf3 := r4.frozen 3))
  obtain ⟨W4, hW4⟩ : ∃ W4, W4 = w3.alloc (Obj.cells #[Value.int IntKind.i64 op, Value.int IntKind.i64 d, Value.int IntKind.i64 s, Value.int IntKind.u16 0] 52) := ⟨_, rfl⟩
  have b23 : Below W2.heap.size W2 w3 := bthen hb3 (bdrewN (Below.refl _ _) nq)
  have b34 : Below w3.heap.size w3 W4 := by rw [hW4]; exact balloc (Below.refl _ _) _
  have i4 := own_new w3 #[Value.int IntKind.i64 op, Value.int IntKind.i64 d, Value.int IntKind.i64 s, Value.int IntKind.u16 0] 52
  rw [← hW4] at i4 ⊢
  have b24 : Below W2.heap.size W2 W4 := bthen b34 b23
  have r5 := r3.below b24
  have h5 := h2.below b24
  have hIR : w2.heap.size < w3.heap.size := Nat.lt_of_lt_of_le hz2 b23.size
  have bW4 : Below w.heap.size w W4 := bthen b24 bWW
  have f0 : W4.cell? ⟨w2.heap.size, 0, none⟩ = some (.slice (some ⟨g, 0, none⟩) 1 1) := h5.cell 0
  have f1 : W4.cell? ⟨w2.heap.size, 1, none⟩ = some (.int .i64 2) := h5.cell 1
  have t1 := cell_below e1 b24
  have t2 := cell_below e2 b24
  clear hW4 b34 b23 b24 q0 qf0 qf1 qf2 qf3 q4 r4 hb3 h2 r3 hd0 hd1 se e0 e1 e2
  go_region_held3 (fun w' => (w'.cell? ⟨w2.heap.size, 0, none⟩ = some (.slice (some ⟨g, 0, none⟩) 1 1) ∧ w'.cell? ⟨w2.heap.size, 1, none⟩ = some (.int .i64 2)) ∧ Below W4.heap.size W4 w')
    ((refine (fun hB => ⟨⟨cell_below f0 hB, cell_below f1 hB⟩, hB⟩) ?_; (first | with_reducible exact Below.refl _ _ | with_reducible exact bdrew (Below.refl _ _) | (go_split_ands; first | assumption | (refine bthen (by assumption) ?_; assumption)))))
    (first
      | (go_simp; go_at_call 44; refine (size_2 _ 1 1 (by omega) _).mono ?_; rintro e w5 ⟨rfl, hbn⟩))
  obtain ⟨⟨f05, f15⟩, b45⟩ : (w5.cell? ⟨w2.heap.size, 0, none⟩ = some (.slice (some ⟨g, 0, none⟩) 1 1) ∧ w5.cell? ⟨w2.heap.size, 1, none⟩ = some (.int .i64 2)) ∧ Below W4.heap.size W4 w5 := by assumption
  have i5 := i4.below b45
  have r6 := r5.below b45
  have h6 := h5.below b45
  have i5f := i5.frozen 3
  have i5c : w5.cell? ⟨w3.heap.size, 3, none⟩ = some (.int .u16 0) := i5.cell 3
  have bW5 : Below w.heap.size w w5 := bthen b45 bW4
  have u1 := cell_below t1 b45
  have u2 := cell_below t2 b45
  clear f0 f1 b45 i4 r5 h5 t1 t2
  have hw := or16 b1 b2 lo1 hi1 lo2 hi2
  go_wp2_with fail
  go_region
  go_wp2_with fail
  all_goals
    obtain ⟨W6, hW6⟩ : ∃ W6, W6 = (w5.setCell ⟨w3.heap.size, 3, none⟩ (.int .u16 (b1 + b2 * 256))).drew := ⟨_, rfl⟩
    have i6 : Own ((w5.setCell ⟨w3.heap.size, 3, none⟩ (.int .u16 (b1 + b2 * 256))).drew) w3.heap.size #[.int .i64 op, .int .i64 d, .int .i64 s, .int .u16 (b1 + b2 * 256)] 52 := i5.set 3 (.int .u16 (b1 + b2 * 256))
    have r7 : Own ((w5.setCell ⟨w3.heap.size, 3, none⟩ (.int .u16 (b1 + b2 * 256))).drew) w.heap.size #[Value.int IntKind.i64 0, Value.int IntKind.i64 0, Value.int IntKind.i64 0, Value.int IntKind.u16 0] 52 := r6.setOther (a := ⟨w3.heap.size, 3, none⟩) (.int .u16 (b1 + b2 * 256)) (by simp; omega)
    have h7 : Own ((w5.setCell ⟨w3.heap.size, 3, none⟩ (.int .u16 (b1 + b2 * 256))).drew) w2.heap.size #[Value.slice (some ⟨g, 0, none⟩) 1 1, Value.int IntKind.i64 2] 94 := h6.setOther (a := ⟨w3.heap.size, 3, none⟩) (.int .u16 (b1 + b2 * 256)) (by simp; omega)
    have bW6 : Below w.heap.size w W6 := by rw [hW6]; exact bdrew (bset (by simp; omega) bW5)
    rw [← hW6] at i6 r7 h7 ⊢
    clear hW6 i5 r6 h6 i5f i5c bW5 f05 f15
    have qi := own4 i6
    have qr := own4 r7
    have fr0 := r7.frozen 0
    have fr1 := r7.frozen 1
    have fr2 := r7.frozen 2
    have fr3 := r7.frozen 3
    have g05 : W6.cell? ⟨w2.heap.size, 0, none⟩ = some (.slice (some ⟨g, 0, none⟩) 1 1) := h7.cell 0
    have g15 : W6.cell? ⟨w2.heap.size, 1, none⟩ = some (.int .i64 2) := h7.cell 1
    go_region_with (first
      | (go_at_call 44; refine (size_2 _ 1 1 (by omega) _).mono ?_; rintro e w7 ⟨rfl, hb7⟩; have qi7 := own4 (i6.drew.below hb7); have qr7 := own4 (r7.drew.below hb7); have fs0 := (r7.drew.below hb7).frozen 0; have fs1 := (r7.drew.below hb7).frozen 1; have fs2 := (r7.drew.below hb7).frozen 2; have fs3 := (r7.drew.below hb7).frozen 3; have zz := (r7.drew.below hb7).lt))
    all_goals
      go_wp2
      refine bodyPost_ret ?_ rfl ⟨rfl, ?_⟩
      · simp [results, Try.results23, go_sem, qr7, zz]
      · exact bset (by simp) (bset (by simp) (bset (by simp) (bset (by simp) (bthen hb7 (bdrew bW6)))))

set_option maxRecDepth 100000 in
set_option maxHeartbeats 2000000 in
theorem read_O13 (gb off n cap : Nat) (b0 b1 op d s : Int) (hG : Tells3 b0 b1 op d s) (hH : TellsH op d s [b0] 3) (w : World)
    (hn : (2 : Int) ≤ (n : Int)) (hn2 : n ≤ 1000) (hcap : (2 : Int) ≤ (cap : Int)) (hcap2 : (n : Int) ≤ (cap : Int)) (hs : (2 : Int) ≤ (n : Int)) (lo1 : 0 ≤ b1) (hi1 : b1 ≤ 255)
    (hc0 : w.cell? ⟨gb, off, none⟩ = some (.int .u8 b0))
    (hc1 : w.cell? ⟨gb, off + 1, none⟩ = some (.int .u8 b1)) :
    Calls Try.prog 23 #[.slice (some ⟨gb, off, none⟩) n cap] w fun e w' => e = .returned (.tuple #[.agg #[.int .i64 op, .int .i64 d, .int .i64 s, .int .u16 (nearN b1)], .int .i64 2, .int .i64 0]) ∧ Below w.heap.size w w' := by
  have hlt := World.block_lt_of_cell? w _ hc0
  simp only at hlt
  have hk : (2 : Int) ≤ (cap : Int) := by omega
  have hwL : IntKind.i64.wrap 1 = 1 := by decide
  have hwS : IntKind.i64.wrap 2 = 2 := by decide
  go_enter Try.func23, Try.ntmps23
  go_wp2
  obtain ⟨W0, hW0⟩ : ∃ W0, W0 = (w.alloc (Obj.cells #[Value.int IntKind.i64 0, Value.int IntKind.i64 0, Value.int IntKind.i64 0, Value.int IntKind.u16 0] 52)).alloc (Obj.cells #[Value.int IntKind.u8 b1] 5) := ⟨_, rfl⟩
  have bW : Below w.heap.size w W0 := by
    rw [hW0]; exact balloc (balloc (Below.refl _ _) _) _
  have r0 := (own_new w #[Value.int IntKind.i64 0, Value.int IntKind.i64 0, Value.int IntKind.i64 0, Value.int IntKind.u16 0] 52).alloc (Obj.cells #[Value.int IntKind.u8 b1] 5)
  have s0 := own_new (w.alloc (Obj.cells #[Value.int IntKind.i64 0, Value.int IntKind.i64 0, Value.int IntKind.i64 0, Value.int IntKind.u16 0] 52)) #[Value.int IntKind.u8 b1] 5
  rw [World.size_alloc] at s0
  rw [← hW0] at r0 s0 ⊢
  have c0 := cell_below hc0 bW
  have c1 := cell_below hc1 bW
  have sc : W0.cell? ⟨w.heap.size + 1, 0, none⟩ = some (.int .u8 b1) := s0.cell 0
  clear hW0 hc0 hc1
  refine wp_loop_rounds 2 ?_
  simp only [rounds_succ]
  go_wp2_with (first
    | (go_at_call 41; refine (hG _).mono ?_; rintro e w1 ⟨rfl, hb1⟩)
    | (go_at_call 42; refine (hH _).mono ?_; rintro e w2 ⟨sl, rfl, hsl, hb2⟩; obtain ⟨g, rfl, hg, ho, hg2⟩ := isb_list hsl))
  have b01 : Below W0.heap.size W0 w2 := bthen hb2 hb1
  have b02 : Below w.heap.size w w2 := bthen b01 bW
  have r2 := r0.below b01
  have hz : w.heap.size < w2.heap.size := r2.lt
  obtain ⟨W2, hW2⟩ : ∃ W2, W2 = w2.alloc (Obj.cells #[Value.slice (some ⟨g, 0, none⟩) 1 1, Value.int IntKind.i64 3] 94) := ⟨_, rfl⟩
  have b22 : Below w2.heap.size w2 W2 := by rw [hW2]; exact balloc (Below.refl _ _) _
  have h2 := own_new w2 #[Value.slice (some ⟨g, 0, none⟩) 1 1, Value.int IntKind.i64 3] 94
  rw [← hW2] at h2 ⊢
  have r3 := r2.below b22
  have hd0 : W2.cell? ⟨w2.heap.size, 0, none⟩ = some (.slice (some ⟨g, 0, none⟩) 1 1) := h2.cell 0
  have hd1 : W2.cell? ⟨w2.heap.size, 1, none⟩ = some (.int .i64 3) := h2.cell 1
  have hz2 : w2.heap.size < W2.heap.size := h2.lt
  have b03 : Below W0.heap.size W0 W2 := bthen b22 b01
  have bWW : Below w.heap.size w W2 := bthen b03 bW
  have q0 := own4 r3
  have qf0 := r3.frozen 0
  have qf1 := r3.frozen 1
  have qf2 := r3.frozen 2
  have qf3 := r3.frozen 3
  have e0 := cell_below c0 b03
  have e1 := cell_below c1 b03
  have se := cell_below sc b03
  have og := ho.below b22
  have g0 : W2.cell? ⟨g, 0, none⟩ = some (.int .u8 b0) := og.cell 0
  clear hW2 b22 r2 c0 c1 sc hsl ho og hb1 hb2 hG hH r0 s0
  have EQ : ∀ k, Calls Try.prog 43 #[.slice (some ⟨g, 0, none⟩) 1 1, .slice (some ⟨gb, off, none⟩) 1 cap] (W2.drewN k) fun e w' => e = .returned (.bool true) ∧ ∃ m, w' = (W2.drewN k).drewN m := by
    intro k
    have h := equal_same g 0 1 gb off cap [b0] [b0] (W2.drewN k) (by simp) rfl (sees1 g0) (sees1 e0)
    rw [show decide ([b0] = [b0]) = true by simp] at h
    exact h
  go_quiet ((go_at_call 43; refine Calls.quiet_of (EQ _)))
  go_wp2_with (first | (go_at_call 44; refine (size_3 _ 1 1 (by omega) _).mono ?_; rintro e w3 ⟨rfl, hb3⟩; have r4 := (r3.drewN nq).below hb3; have q4 := own4 r4; have qf0 := r4.frozen 0; have qf1 := r4.frozen 1; have qf2 := r4.frozen 2; have qf3 := r4.frozen 3))
  obtain ⟨W4, hW4⟩ : ∃ W4, W4 = w3.alloc (Obj.cells #[Value.int IntKind.i64 op, Value.int IntKind.i64 d, Value.int IntKind.i64 s, Value.int IntKind.u16 0] 52) := ⟨_, rfl⟩
  have b23 : Below W2.heap.size W2 w3 := bthen hb3 (bdrewN (Below.refl _ _) nq)
  have b34 : Below w3.heap.size w3 W4 := by rw [hW4]; exact balloc (Below.refl _ _) _
  have i4 := own_new w3 #[Value.int IntKind.i64 op, Value.int IntKind.i64 d, Value.int IntKind.i64 s, Value.int IntKind.u16 0] 52
  rw [← hW4] at i4 ⊢
  have b24 : Below W2.heap.size W2 W4 := bthen b34 b23
  have r5 := r3.below b24
  have h5 := h2.below b24
  have hIR : w2.heap.size < w3.heap.size := Nat.lt_of_lt_of_le hz2 b23.size
  have bW4 : Below w.heap.size w W4 := bthen b24 bWW
  have f0 : W4.cell? ⟨w2.heap.size, 0, none⟩ = some (.slice (some ⟨g, 0, none⟩) 1 1) := h5.cell 0
  have f1 : W4.cell? ⟨w2.heap.size, 1, none⟩ = some (.int .i64 3) := h5.cell 1
  have t1 := cell_below e1 b24
  clear hW4 b34 b23 b24 q0 qf0 qf1 qf2 qf3 q4 r4 hb3 h2 r3 hd0 hd1 se e0 e1
  go_region_held3 (fun w' => (w'.cell? ⟨w2.heap.size, 0, none⟩ = some (.slice (some ⟨g, 0, none⟩) 1 1) ∧ w'.cell? ⟨w2.heap.size, 1, none⟩ = some (.int .i64 3)) ∧ Below W4.heap.size W4 w')
    ((refine (fun hB => ⟨⟨cell_below f0 hB, cell_below f1 hB⟩, hB⟩) ?_; (first | with_reducible exact Below.refl _ _ | with_reducible exact bdrew (Below.refl _ _) | (go_split_ands; first | assumption | (refine bthen (by assumption) ?_; assumption)))))
    (first
      | (go_simp; go_at_call 44; refine (size_3 _ 1 1 (by omega) _).mono ?_; rintro e w5 ⟨rfl, hbn⟩))
  obtain ⟨⟨f05, f15⟩, b45⟩ : (w5.cell? ⟨w2.heap.size, 0, none⟩ = some (.slice (some ⟨g, 0, none⟩) 1 1) ∧ w5.cell? ⟨w2.heap.size, 1, none⟩ = some (.int .i64 3)) ∧ Below W4.heap.size W4 w5 := by assumption
  have i5 := i4.below b45
  have r6 := r5.below b45
  have h6 := h5.below b45
  have i5f := i5.frozen 3
  have i5c : w5.cell? ⟨w3.heap.size, 3, none⟩ = some (.int .u16 0) := i5.cell 3
  have bW5 : Below w.heap.size w w5 := bthen b45 bW4
  have u1 := cell_below t1 b45
  clear f0 f1 b45 i4 r5 h5 t1
  have hw := near_wrap b1
  go_wp2_with fail
  all_goals
    obtain ⟨W6, hW6⟩ : ∃ W6, W6 = w5.setCell ⟨w3.heap.size, 3, none⟩ (.int .u16 (nearN b1)) := ⟨_, rfl⟩
    have i6 : Own (w5.setCell ⟨w3.heap.size, 3, none⟩ (.int .u16 (nearN b1))) w3.heap.size #[.int .i64 op, .int .i64 d, .int .i64 s, .int .u16 (nearN b1)] 52 := i5.set 3 (.int .u16 (nearN b1))
    have r7 : Own (w5.setCell ⟨w3.heap.size, 3, none⟩ (.int .u16 (nearN b1))) w.heap.size #[Value.int IntKind.i64 0, Value.int IntKind.i64 0, Value.int IntKind.i64 0, Value.int IntKind.u16 0] 52 := r6.setOther (a := ⟨w3.heap.size, 3, none⟩) (.int .u16 (nearN b1)) (by simp; omega)
    have h7 : Own (w5.setCell ⟨w3.heap.size, 3, none⟩ (.int .u16 (nearN b1))) w2.heap.size #[Value.slice (some ⟨g, 0, none⟩) 1 1, Value.int IntKind.i64 3] 94 := h6.setOther (a := ⟨w3.heap.size, 3, none⟩) (.int .u16 (nearN b1)) (by simp; omega)
    have bW6 : Below w.heap.size w W6 := by rw [hW6]; exact (bset (by simp; omega) bW5)
    rw [← hW6] at i6 r7 h7 ⊢
    clear hW6 i5 r6 h6 i5f i5c bW5 f05 f15
    have qi := own4 i6
    have qr := own4 r7
    have fr0 := r7.frozen 0
    have fr1 := r7.frozen 1
    have fr2 := r7.frozen 2
    have fr3 := r7.frozen 3
    have g05 : W6.cell? ⟨w2.heap.size, 0, none⟩ = some (.slice (some ⟨g, 0, none⟩) 1 1) := h7.cell 0
    have g15 : W6.cell? ⟨w2.heap.size, 1, none⟩ = some (.int .i64 3) := h7.cell 1
    go_region_with (first
      | (go_at_call 44; refine (size_3 _ 1 1 (by omega) _).mono ?_; rintro e w7 ⟨rfl, hb7⟩; have qi7 := own4 (i6.drew.below hb7); have qr7 := own4 (r7.drew.below hb7); have fs0 := (r7.drew.below hb7).frozen 0; have fs1 := (r7.drew.below hb7).frozen 1; have fs2 := (r7.drew.below hb7).frozen 2; have fs3 := (r7.drew.below hb7).frozen 3; have zz := (r7.drew.below hb7).lt))
    all_goals
      go_wp2
      refine bodyPost_ret ?_ rfl ⟨rfl, ?_⟩
      · simp [results, Try.results23, go_sem, qr7, zz]
      · exact bset (by simp) (bset (by simp) (bset (by simp) (bset (by simp) (bthen hb7 (bdrew bW6)))))

end Go.Proofs.Ytbhkndblolegaaa
