/- The walk of isa86.Read of one byte, and of none. -/
import Derived.Test.YtbhkndblolegaaaIz
import Derived.Test.YtbhkndblolegaaaIl
import Derived.OwnWalk
import Derived.Deep.CutRange
import Derived.Deep.AppendLies
import Derived.Laws.AppendOwn
namespace Go.Proofs.Ytbhkndblolegaaa
open Go.RowKit
set_option linter.unusedVariables false
set_option linter.unusedSimpArgs false

theorem read_0 (p : Option Addr) (cap : Nat) (w : World) :
    Calls Try.prog 23 #[.slice p 0 cap] w fun e w' => e = .returned (.tuple #[.agg #[.int .i64 0, .int .i64 0, .int .i64 0, .int .u16 0], .int .i64 0, .int .i64 2]) ∧ Below w.heap.size w w' := by
  have r0 := own_new w #[.int .i64 0, .int .i64 0, .int .i64 0, .int .u16 0] 52
  have q0 := own4 r0
  go_enter Try.func23, Try.ntmps23
  go_wp2
  refine bodyPost_ret ?_ rfl ⟨rfl, ?_⟩
  · simp [results, Try.results23, go_sem]
  · exact balloc (Below.refl _ _) _

theorem try_none1 (b : List Int) (m op d s t : Int) (hb : List Int) (hg : guessL (b.getD 0 0) m = (op, d, s)) (hh : headsL op d s = (hb, t))
    (h : hb = [] ∨ ¬ hb.take (min hb.length b.length) = b.take (min hb.length b.length) ∨ (hb.length = 2 ∧ ¬ hb.getD 1 0 = m)) : tryL b m = none := by
  unfold tryL
  simp only [hg, hh]
  rw [if_pos h]
theorem first_at (b0 : Int) (k : Nat) (hk : k < 256) (r : Told) (h : ∀ j, j < k → tryL [b0] (j : Int) = none) (hr : tryL [b0] (k : Int) = some r) : firstL b0 = some r := by
  unfold firstL
  have e : List.range 256 = List.range k ++ (List.range ((255 - k) + 1)).map (k + ·) := by
    rw [← List.range_add]
    congr 1
    omega
  rw [e, List.findSome?_append]
  have h0 : (List.range k).findSome? (fun m : Nat => tryL [b0] (m : Int)) = none := by
    rw [List.findSome?_eq_none_iff]
    intro x hx
    exact h x (by simpa using hx)
  rw [h0, List.range_succ_eq_map]
  simp [hr]
theorem first_no (b0 : Int) (h : ∀ j : Nat, j < 256 → tryL [b0] (j : Int) = none) : firstL b0 = none := by
  unfold firstL
  rw [List.findSome?_eq_none_iff]
  intro x hx
  exact h x (by simpa using hx)
def secs (n : Nat) : List Value := (List.range n).map fun (j : Nat) => Value.int .u8 (j : Int)
theorem secs_len (n : Nat) : (secs n).length = n := by simp [secs]
theorem secs_snoc (n : Nat) : secs (n + 1) = secs n ++ [.int .u8 (n : Int)] := by simp [secs, List.range_succ]
theorem secs_at (n j : Nat) (h : j < n) : (secs n)[j]? = some (.int .u8 (j : Int)) := by simp [secs, h]

set_option maxRecDepth 100000 in
set_option maxHeartbeats 4000000 in
theorem read_1 (gb off cap : Nat) (b0 : Int) (lo : 0 ≤ b0) (hi : b0 ≤ 255) (hcap : (1 : Int) ≤ (cap : Int)) (w : World) (hc0 : w.cell? ⟨gb, off, none⟩ = some (.int .u8 b0)) :
    Calls Try.prog 23 #[.slice (some ⟨gb, off, none⟩) 1 cap] w fun e w' => e = .returned (toldV (readL [b0])) ∧ Below w.heap.size w w' := by
  obtain ⟨iu, hiu, hu0, hu1, hu2⟩ := info_parts (show (Try.prog.info? 5).map (fun i => (i.zero, i.size, i.bytes)) = some (some (.int .u8 0), 1, 1) by kernel_rfl)
  have hlt := World.block_lt_of_cell? w _ hc0
  simp only at hlt
  obtain ⟨W1, hW1⟩ : ∃ W1, W1 = w.alloc (.cells #[.int .i64 0, .int .i64 0, .int .i64 0, .int .u16 0] 52) := ⟨_, rfl⟩
  have r0 : Own W1 w.heap.size #[.int .i64 0, .int .i64 0, .int .i64 0, .int .u16 0] 52 := by rw [hW1]; exact own_new _ _ _
  have bW1 : Below w.heap.size w W1 := by rw [hW1]; exact balloc (Below.refl _ _) _
  have z1 : W1.heap.size = w.heap.size + 1 := by rw [hW1]; simp
  have hown0 : (W1.alloc (.cells #[.int .u8 0] 5)).ownsRow W1.heap.size 5 1 (.slice (some ⟨W1.heap.size, 0, none⟩) 1 1) 1 (secs 1) :=
    ⟨rfl, .inr ⟨W1.heap.size, 1, #[.int .u8 0], rfl, Nat.le_refl _, heap_alloc_new W1 _, Nat.le_refl _, by decide, rfl, rfl⟩⟩
  have z1' := Lib.hid z1
  have c0 := cell_below hc0 bW1
  have lt1 := r0.lt
  have R0 := Lib.hid r0
  have BW1 := Lib.hid bW1
  clear z1 r0 bW1 hc0
  go_enter Try.func23, Try.ntmps23
  go_upto_region 3 with (fail)
  rw [← hW1]
  clear hW1
  have b01 : Below W1.heap.size W1 (W1.alloc (.cells #[.int .u8 0] 5)) := balloc (Below.refl _ _) _
  go_wp2
  go_loopw [5, 29] (fun v i wr => ∃ k : Nat, k ≤ 255 ∧ i = .int .i64 k ∧ wr.ownsRow W1.heap.size 5 1 v (k + 1) (secs (k + 1)) ∧ Below W1.heap.size W1 wr) (fun _ i _ => 255 - (intOf i).toNat)
  case atStart => exact ⟨0, by decide, rfl, hown0, b01⟩
  case round =>
    obtain ⟨k, hk, rfl, hown, hb⟩ := hrel
    by_cases hk2 : k < 255
    · have hk3 : (k : Int) < 255 := by omega
      have hwk : IntKind.u8.wrap ((k : Int) + 1) = (k : Int) + 1 := by simp [IntKind.wrap, IntKind.bits, IntKind.signed]; omega
      obtain ⟨xs, hxs⟩ : ∃ xs, xs = secs (k + 1) := ⟨_, rfl⟩
      rw [← hxs] at hown
      have hxs' := Lib.hid hxs
      clear hxs
      go_wp2_with (at_builtin; refine wpList_append_own _ rfl _ _ 26 rfl W1.heap.size 5 iu (.int .u8 0) 1 1 Try.underlying26 hiu hu0 hu1 hu2 rfl (by decide) _ (k + 1) xs rfl (hown.alloc _) ⟨wr.heap.size, 0, none⟩ 1 1 [.int .u8 ((k : Int) + 1)] rfl rfl ?c1 ?c2 ?c3 ?c4 ?c5 ?_)
      case c1 => exact World.news_of_block (own_new wr _ _)
      case c2 => intro u hu; simp at hu; subst hu; rfl
      case c3 => unfold maxLen; omega
      case c4 => omega
      case c5 => have := hb.size; simp; omega
      intro v' w5 hown5 hgrow5 _
      have hb5 : Below W1.heap.size W1 w5 := (balloc hb _).grown hgrow5 (by have := hb.size; simp; omega) (by intro q hq; exact (hown.lt q hq).1)
      have hown6 : w5.ownsRow W1.heap.size 5 1 v' (k + 1 + 1) (secs (k + 1 + 1)) := by
        rw [secs_snoc (k + 1), ← hxs'.out]
        exact hown5
      clear hown5 hgrow5 hown
      go_wp2
      go_roundw
      case rel => exact ⟨k + 1, by omega, by go_num, hown6, hb5⟩
      case measure => simp [intOf]; omega
    · obtain rfl : k = 255 := by omega
      obtain ⟨gs, caps, hv0, hgs, hgl⟩ := hown.form (by decide)
      have hv1 : _ = Value.slice (some ⟨gs, 0, none⟩) 256 caps := hv0
      subst hv1
      rw [show ((255 : Nat) : Int) = 255 from rfl]
      have hsec : ∀ j, j < 256 → wr.cell? ⟨gs, j, none⟩ = some (.int .u8 (j : Int)) := fun j hj => by
        rw [World.ownsRow.cellAt hown j (by omega)]
        exact secs_at 256 j hj
      have hcs : 256 ≤ caps := by
        rcases hown.2 with ⟨_, h⟩ | ⟨g', c', _, e, _, _, h, _⟩
        · omega
        · cases e; omega
      clear hown
      rename World => WS
      have WR0 := Lib.hid (R0.out.below hb)
      have CR0 := cell_below c0 hb
      have BWR := Lib.hid (bthen hb BW1.out)
      have CR0' := Lib.hid CR0
      have zr : w.heap.size < WS.heap.size := Nat.lt_of_lt_of_le lt1 hb.size
      have hcs2 : (256 : Int) ≤ caps := by omega
      clear CR0 c0 hb
      go_wp2
      go_loopw [41] (fun i wq => ∃ k : Nat, k ≤ 256 ∧ i = .int .i64 k ∧ (∀ j : Nat, j < k → tryL [b0] (j : Int) = none) ∧ Below WS.heap.size WS wq) (fun i _ => 256 - (intOf i).toNat)
      case atStart => exact ⟨0, by decide, rfl, fun j h => absurd h (Nat.not_lt_zero j), Below.refl _ _⟩
      case round =>
        obtain ⟨k, hk, rfl, hall, hq⟩ := hrel
        have r1 := WR0.out.below hq
        have hz1 : w.heap.size < wr.heap.size := r1.lt
        by_cases hk2 : k < 256
        · have hk3 : (k : Int) < 256 := by omega
          have c0 := cell_below CR0'.out hq
          have sk := cell_below (hsec k hk2) hq
          have hall' := Lib.hid hall
          have hq' := Lib.hid hq
          have r1' := Lib.hid r1
          obtain ⟨op, d, s, hg⟩ : ∃ op d s, guessL b0 (k : Int) = (op, d, s) := ⟨_, _, _, rfl⟩
          have hG : Tells3 b0 (k : Int) op d s := by
            intro w
            have := guess_any b0 (k : Int) lo hi (by omega) (by omega) w
            rw [hg] at this
            exact this
          obtain ⟨hbs, t, hh⟩ : ∃ hb t, headsL op d s = (hb, t) := ⟨_, _, rfl⟩
          have hH : TellsH op d s hbs t := by
            intro w
            have := heads_any op d s w
            rw [hh] at this
            exact this
          obtain ⟨ht, hl⟩ := heads_tail op d s
          rw [hh] at ht hl
          simp only at ht hl
          have hg' : guessL ([b0].getD 0 0) (k : Int) = (op, d, s) := hg
          have hg2 := Lib.hid hg'
          have hh2 := Lib.hid hh
          clear hg hg' hh hall hq r1
          have next : tryL [b0] (k : Int) = none → ∀ j : Nat, j < k + 1 → tryL [b0] (j : Int) = none := by
            intro h j hj
            by_cases e : j = k
            · subst e; exact h
            · exact hall'.out j (by omega)
          have next' := Lib.hid next
          clear next
          match hbs, hl, hH, hh2 with
          | [], _, hH, hh2 =>
            have hno := Lib.hid (try_none1 [b0] (k : Int) op d s t [] hg2.out hh2.out (.inl rfl))
            go_wp2_with (first
              | (go_at_call 41; refine (hG _).mono ?_; rintro e w1 ⟨rfl, hb1⟩)
              | (go_at_call 42; refine (hH _).mono ?_; rintro e w2 ⟨sl, rfl, hsl, hb2⟩; obtain rfl : sl = .slice none 0 0 := by (rcases hsl with ⟨he, h⟩ | ⟨he, _⟩; exact h; exact absurd rfl he)))
            have b01 : Below wr.heap.size wr w2 := bthen hb2 hb1
            have r2 := r1'.out.below b01
            obtain ⟨W2, hW2⟩ : ∃ W2, W2 = w2.alloc (Obj.cells #[.slice none 0 0, Value.int IntKind.i64 t] 94) := ⟨_, rfl⟩
            have b22 : Below w2.heap.size w2 W2 := by rw [hW2]; exact balloc (Below.refl _ _) _
            have h2 := own_new w2 #[.slice none 0 0, Value.int IntKind.i64 t] 94
            rw [← hW2] at h2 ⊢
            have r3 := r2.below b22
            have hd0 : W2.cell? ⟨w2.heap.size, 0, none⟩ = some (.slice none 0 0) := h2.cell 0
            have hd1 : W2.cell? ⟨w2.heap.size, 1, none⟩ = some (.int .i64 t) := h2.cell 1
            have b03 : Below wr.heap.size wr W2 := bthen b22 b01
            have bWW : Below WS.heap.size WS W2 := bthen b03 hq'.out
            have e0 := cell_below c0 b03
            have se := cell_below sk b03
            have R3 := Lib.hid r3
            have H2 := Lib.hid h2
            clear hW2 b22 h2 r2 r3 c0 sk hsl hb1 hb2 hG hH b01
            go_quiet (fail)
            go_wp2
            go_roundw
            case rel => exact ⟨k + 1, by omega, by go_num, next'.out hno.out, bdrewN bWW _⟩
            case measure => simp [intOf]; omega
          | [x], _, hH, hh2 =>
            by_cases hx : x = b0
            · subst hx
              rcases ht with rfl | rfl | rfl | rfl
              · have hres := Lib.hid (show readL [x] = (op, d, s, 0, 1, 0) from congrArg (fun o : Option Told => o.getD noneT) (first_at x k hk2 _ hall'.out (try_told [x] (k : Int) op d s 0 [x] hg2.out hh2.out (by simp) (by simp) (by simp) (by simp [sizeL, tailN]))))
                go_wp2_with (first
                  | (go_at_call 41; refine (hG _).mono ?_; rintro e w1 ⟨rfl, hb1⟩)
                  | (go_at_call 42; refine (hH _).mono ?_; rintro e w2 ⟨sl, rfl, hsl, hb2⟩; obtain ⟨g, rfl, hg, ho, hg2'⟩ := isb_list hsl))
                have b01 : Below wr.heap.size wr w2 := bthen hb2 hb1
                have r2 := r1'.out.below b01
                obtain ⟨W2, hW2⟩ : ∃ W2, W2 = w2.alloc (Obj.cells #[.slice (some ⟨g, 0, none⟩) 1 1, Value.int IntKind.i64 0] 94) := ⟨_, rfl⟩
                have b22 : Below w2.heap.size w2 W2 := by rw [hW2]; exact balloc (Below.refl _ _) _
                have h2 := own_new w2 #[.slice (some ⟨g, 0, none⟩) 1 1, Value.int IntKind.i64 0] 94
                rw [← hW2] at h2 ⊢
                have r3 := r2.below b22
                have hd0 : W2.cell? ⟨w2.heap.size, 0, none⟩ = some (.slice (some ⟨g, 0, none⟩) 1 1) := h2.cell 0
                have hd1 : W2.cell? ⟨w2.heap.size, 1, none⟩ = some (.int .i64 0) := h2.cell 1
                have b03 : Below wr.heap.size wr W2 := bthen b22 b01
                have bWW : Below WS.heap.size WS W2 := bthen b03 hq'.out
                have e0 := cell_below c0 b03
                have se := cell_below sk b03
                have og := ho.below b22
                have g0 : W2.cell? ⟨g, 0, none⟩ = some (.int .u8 x) := og.cell 0
                clear og ho
                have R3 := Lib.hid r3
                have H2 := Lib.hid h2
                clear hW2 b22 h2 r2 r3 c0 sk hsl hb1 hb2 hG hH b01
                have EQ : ∀ k, Calls Try.prog 43 #[.slice (some ⟨g, 0, none⟩) 1 1, .slice (some ⟨gb, off, none⟩) 1 cap] (W2.drewN k) fun e w' => e = .returned (.bool true) ∧ ∃ m, w' = (W2.drewN k).drewN m := by
                  intro k
                  have h := equal_same g 0 1 gb off cap [x] [x] (W2.drewN k) (by simp) rfl (sees1 g0) (sees1 e0)
                  rw [show decide ([x] = [x]) = true by simp] at h
                  exact h
                have r3 := R3.out
                have h2 := H2.out
                have q0 := own4 r3
                have qf0 := r3.frozen 0
                have qf1 := r3.frozen 1
                have qf2 := r3.frozen 2
                have qf3 := r3.frozen 3
                have hz2 : w2.heap.size < W2.heap.size := h2.lt
                have hk1 : (1 : Int) ≤ (cap : Int) := hcap
                have hwL : IntKind.i64.wrap 1 = 1 := by decide
                have bWW' : Below w.heap.size w W2 := bthen bWW BWR.out
                have e1 := Lib.hid e0
                go_quiet ((go_at_call 43; refine Calls.quiet_of (EQ _)))
                go_wp2_with (first | (go_at_call 44; refine (size_0 _ 1 1 (by omega) _).mono ?_; rintro e w3 ⟨rfl, hb3⟩; have r4 := (r3.drewN nq).below hb3; have q4 := own4 r4; have qf0 := r4.frozen 0; have qf1 := r4.frozen 1; have qf2 := r4.frozen 2; have qf3 := r4.frozen 3))
                obtain ⟨W4, hW4⟩ : ∃ W4, W4 = w3.alloc (Obj.cells #[Value.int IntKind.i64 op, Value.int IntKind.i64 d, Value.int IntKind.i64 s, Value.int IntKind.u16 0] 52) := ⟨_, rfl⟩
                have b23 : Below W2.heap.size W2 w3 := bthen hb3 (bdrewN (Below.refl _ _) nq)
                have b34 : Below w3.heap.size w3 W4 := by rw [hW4]; exact balloc (Below.refl _ _) _
                have i4 := own_new w3 #[Value.int IntKind.i64 op, Value.int IntKind.i64 d, Value.int IntKind.i64 s, Value.int IntKind.u16 0] 52
                rw [← hW4] at i4 ⊢
                have b24 : Below W2.heap.size W2 W4 := bthen b34 b23
                have r5 := r3.below b24
                have h5 := h2.below b24
                have hIR : w2.heap.size < w3.heap.size := Nat.lt_of_lt_of_le hz2 b23.size
                have bW4 : Below w.heap.size w W4 := bthen b24 bWW'
                have f0 : W4.cell? ⟨w2.heap.size, 0, none⟩ = some (.slice (some ⟨g, 0, none⟩) 1 1) := h5.cell 0
                have f1 : W4.cell? ⟨w2.heap.size, 1, none⟩ = some (.int .i64 0) := h5.cell 1
                clear hW4 b34 b23 b24 q0 qf0 qf1 qf2 qf3 q4 r4 hb3 h2 r3 hd0 hd1 se e0
                go_region_held3 (fun w' => (w'.cell? ⟨w2.heap.size, 0, none⟩ = some (.slice (some ⟨g, 0, none⟩) 1 1) ∧ w'.cell? ⟨w2.heap.size, 1, none⟩ = some (.int .i64 0)) ∧ Below W4.heap.size W4 w')
                  ((refine (fun hB => ⟨⟨cell_below f0 hB, cell_below f1 hB⟩, hB⟩) ?_; (first | with_reducible exact Below.refl _ _ | with_reducible exact bdrew (Below.refl _ _) | (go_split_ands; first | assumption | (refine bthen (by assumption) ?_; assumption)))))
                  (first
                    | (go_simp; go_at_call 44; refine (size_0 _ 1 1 (by omega) _).mono ?_; rintro e w5 ⟨rfl, hbn⟩))
                obtain ⟨⟨f05, f15⟩, b45⟩ : (w5.cell? ⟨w2.heap.size, 0, none⟩ = some (.slice (some ⟨g, 0, none⟩) 1 1) ∧ w5.cell? ⟨w2.heap.size, 1, none⟩ = some (.int .i64 0)) ∧ Below W4.heap.size W4 w5 := by assumption
                have i5 := i4.below b45
                have r6 := r5.below b45
                have h6 := h5.below b45
                have i5f := i5.frozen 3
                have i5c : w5.cell? ⟨w3.heap.size, 3, none⟩ = some (.int .u16 0) := i5.cell 3
                have bW5 : Below w.heap.size w w5 := bthen b45 bW4
                clear f0 f1 b45 i4 r5 h5
                go_wp2_with fail
                all_goals
                  obtain ⟨W6, hW6⟩ : ∃ W6, W6 = w5 := ⟨_, rfl⟩
                  have i6 := i5
                  have r7 := r6
                  have h7 := h6
                  have bW6 : Below w.heap.size w W6 := by rw [hW6]; exact bW5
                  rw [← hW6] at i6 r7 h7 ⊢
                  clear hW6 i5 r6 h6 i5f i5c bW5 f05 f15
                  have qi := own4 i6
                  have qr := own4 r7
                  have fr0 := r7.frozen 0
                  have fr1 := r7.frozen 1
                  have fr2 := r7.frozen 2
                  have fr3 := r7.frozen 3
                  have g05 : W6.cell? ⟨w2.heap.size, 0, none⟩ = some (.slice (some ⟨g, 0, none⟩) 1 1) := h7.cell 0
                  have g15 : W6.cell? ⟨w2.heap.size, 1, none⟩ = some (.int .i64 0) := h7.cell 1
                  go_region_with (first
                    | (go_at_call 44; refine (size_0 _ 1 1 (by omega) _).mono ?_; rintro e w7 ⟨rfl, hb7⟩; have qi7 := own4 (i6.drew.below hb7); have qr7 := own4 (r7.drew.below hb7); have fs0 := (r7.drew.below hb7).frozen 0; have fs1 := (r7.drew.below hb7).frozen 1; have fs2 := (r7.drew.below hb7).frozen 2; have fs3 := (r7.drew.below hb7).frozen 3; have zz := (r7.drew.below hb7).lt))
                  all_goals
                    go_wp2
                    refine bodyPost_ret (v := toldV (readL [x])) ?_ rfl ⟨rfl, ?_⟩
                    · rw [hres.out]
                      simp [toldV, results, Try.results23, go_sem, qr7, zz]
                    · exact bset (by simp) (bset (by simp) (bset (by simp) (bset (by simp) (bthen hb7 (bdrew bW6)))))
              · have hres := Lib.hid (show readL [x] = shortT from congrArg (fun o : Option Told => o.getD noneT) (first_at x k hk2 _ hall'.out (try_short [x] (k : Int) op d s 1 [x] hg2.out hh2.out (by simp) (by simp) (by simp) (by simp [sizeL, tailN]))))
                go_wp2_with (first
                  | (go_at_call 41; refine (hG _).mono ?_; rintro e w1 ⟨rfl, hb1⟩)
                  | (go_at_call 42; refine (hH _).mono ?_; rintro e w2 ⟨sl, rfl, hsl, hb2⟩; obtain ⟨g, rfl, hg, ho, hg2'⟩ := isb_list hsl))
                have b01 : Below wr.heap.size wr w2 := bthen hb2 hb1
                have r2 := r1'.out.below b01
                obtain ⟨W2, hW2⟩ : ∃ W2, W2 = w2.alloc (Obj.cells #[.slice (some ⟨g, 0, none⟩) 1 1, Value.int IntKind.i64 1] 94) := ⟨_, rfl⟩
                have b22 : Below w2.heap.size w2 W2 := by rw [hW2]; exact balloc (Below.refl _ _) _
                have h2 := own_new w2 #[.slice (some ⟨g, 0, none⟩) 1 1, Value.int IntKind.i64 1] 94
                rw [← hW2] at h2 ⊢
                have r3 := r2.below b22
                have hd0 : W2.cell? ⟨w2.heap.size, 0, none⟩ = some (.slice (some ⟨g, 0, none⟩) 1 1) := h2.cell 0
                have hd1 : W2.cell? ⟨w2.heap.size, 1, none⟩ = some (.int .i64 1) := h2.cell 1
                have b03 : Below wr.heap.size wr W2 := bthen b22 b01
                have bWW : Below WS.heap.size WS W2 := bthen b03 hq'.out
                have e0 := cell_below c0 b03
                have se := cell_below sk b03
                have og := ho.below b22
                have g0 : W2.cell? ⟨g, 0, none⟩ = some (.int .u8 x) := og.cell 0
                clear og ho
                have R3 := Lib.hid r3
                have H2 := Lib.hid h2
                clear hW2 b22 h2 r2 r3 c0 sk hsl hb1 hb2 hG hH b01
                have EQ : ∀ k, Calls Try.prog 43 #[.slice (some ⟨g, 0, none⟩) 1 1, .slice (some ⟨gb, off, none⟩) 1 cap] (W2.drewN k) fun e w' => e = .returned (.bool true) ∧ ∃ m, w' = (W2.drewN k).drewN m := by
                  intro k
                  have h := equal_same g 0 1 gb off cap [x] [x] (W2.drewN k) (by simp) rfl (sees1 g0) (sees1 e0)
                  rw [show decide ([x] = [x]) = true by simp] at h
                  exact h
                have r3q := R3.out
                have q0 := own4 r3q
                have qf0 := r3q.frozen 0
                have qf1 := r3q.frozen 1
                have qf2 := r3q.frozen 2
                have qf3 := r3q.frozen 3
                go_quiet ((go_at_call 43; refine Calls.quiet_of (EQ _)))
                go_wp2_with (first | (go_at_call 44; refine (size_1 _ 1 1 (by omega) _).mono ?_; rintro e w3 ⟨rfl, hb3⟩; have r4 := (R3.out.drewN nq).below hb3; have q4 := own4 r4; have qf0 := r4.frozen 0; have qf1 := r4.frozen 1; have qf2 := r4.frozen 2; have qf3 := r4.frozen 3; have l4 := r4.lt))
                refine bodyPost_ret (v := toldV (readL [x])) ?_ rfl ⟨rfl, ?_⟩
                · rw [hres.out]
                  simp [toldV, shortT, results, Try.results23, go_sem, q4, l4]
                · exact bset (by simp) (bset (by simp) (bset (by simp) (bset (by simp) (bthen hb3 (bdrewN (bthen bWW BWR.out) _)))))
              · have hres := Lib.hid (show readL [x] = shortT from congrArg (fun o : Option Told => o.getD noneT) (first_at x k hk2 _ hall'.out (try_short [x] (k : Int) op d s 2 [x] hg2.out hh2.out (by simp) (by simp) (by simp) (by simp [sizeL, tailN]))))
                go_wp2_with (first
                  | (go_at_call 41; refine (hG _).mono ?_; rintro e w1 ⟨rfl, hb1⟩)
                  | (go_at_call 42; refine (hH _).mono ?_; rintro e w2 ⟨sl, rfl, hsl, hb2⟩; obtain ⟨g, rfl, hg, ho, hg2'⟩ := isb_list hsl))
                have b01 : Below wr.heap.size wr w2 := bthen hb2 hb1
                have r2 := r1'.out.below b01
                obtain ⟨W2, hW2⟩ : ∃ W2, W2 = w2.alloc (Obj.cells #[.slice (some ⟨g, 0, none⟩) 1 1, Value.int IntKind.i64 2] 94) := ⟨_, rfl⟩
                have b22 : Below w2.heap.size w2 W2 := by rw [hW2]; exact balloc (Below.refl _ _) _
                have h2 := own_new w2 #[.slice (some ⟨g, 0, none⟩) 1 1, Value.int IntKind.i64 2] 94
                rw [← hW2] at h2 ⊢
                have r3 := r2.below b22
                have hd0 : W2.cell? ⟨w2.heap.size, 0, none⟩ = some (.slice (some ⟨g, 0, none⟩) 1 1) := h2.cell 0
                have hd1 : W2.cell? ⟨w2.heap.size, 1, none⟩ = some (.int .i64 2) := h2.cell 1
                have b03 : Below wr.heap.size wr W2 := bthen b22 b01
                have bWW : Below WS.heap.size WS W2 := bthen b03 hq'.out
                have e0 := cell_below c0 b03
                have se := cell_below sk b03
                have og := ho.below b22
                have g0 : W2.cell? ⟨g, 0, none⟩ = some (.int .u8 x) := og.cell 0
                clear og ho
                have R3 := Lib.hid r3
                have H2 := Lib.hid h2
                clear hW2 b22 h2 r2 r3 c0 sk hsl hb1 hb2 hG hH b01
                have EQ : ∀ k, Calls Try.prog 43 #[.slice (some ⟨g, 0, none⟩) 1 1, .slice (some ⟨gb, off, none⟩) 1 cap] (W2.drewN k) fun e w' => e = .returned (.bool true) ∧ ∃ m, w' = (W2.drewN k).drewN m := by
                  intro k
                  have h := equal_same g 0 1 gb off cap [x] [x] (W2.drewN k) (by simp) rfl (sees1 g0) (sees1 e0)
                  rw [show decide ([x] = [x]) = true by simp] at h
                  exact h
                have r3q := R3.out
                have q0 := own4 r3q
                have qf0 := r3q.frozen 0
                have qf1 := r3q.frozen 1
                have qf2 := r3q.frozen 2
                have qf3 := r3q.frozen 3
                go_quiet ((go_at_call 43; refine Calls.quiet_of (EQ _)))
                go_wp2_with (first | (go_at_call 44; refine (size_2 _ 1 1 (by omega) _).mono ?_; rintro e w3 ⟨rfl, hb3⟩; have r4 := (R3.out.drewN nq).below hb3; have q4 := own4 r4; have qf0 := r4.frozen 0; have qf1 := r4.frozen 1; have qf2 := r4.frozen 2; have qf3 := r4.frozen 3; have l4 := r4.lt))
                refine bodyPost_ret (v := toldV (readL [x])) ?_ rfl ⟨rfl, ?_⟩
                · rw [hres.out]
                  simp [toldV, shortT, results, Try.results23, go_sem, q4, l4]
                · exact bset (by simp) (bset (by simp) (bset (by simp) (bset (by simp) (bthen hb3 (bdrewN (bthen bWW BWR.out) _)))))
              · have hres := Lib.hid (show readL [x] = shortT from congrArg (fun o : Option Told => o.getD noneT) (first_at x k hk2 _ hall'.out (try_short [x] (k : Int) op d s 3 [x] hg2.out hh2.out (by simp) (by simp) (by simp) (by simp [sizeL, tailN]))))
                go_wp2_with (first
                  | (go_at_call 41; refine (hG _).mono ?_; rintro e w1 ⟨rfl, hb1⟩)
                  | (go_at_call 42; refine (hH _).mono ?_; rintro e w2 ⟨sl, rfl, hsl, hb2⟩; obtain ⟨g, rfl, hg, ho, hg2'⟩ := isb_list hsl))
                have b01 : Below wr.heap.size wr w2 := bthen hb2 hb1
                have r2 := r1'.out.below b01
                obtain ⟨W2, hW2⟩ : ∃ W2, W2 = w2.alloc (Obj.cells #[.slice (some ⟨g, 0, none⟩) 1 1, Value.int IntKind.i64 3] 94) := ⟨_, rfl⟩
                have b22 : Below w2.heap.size w2 W2 := by rw [hW2]; exact balloc (Below.refl _ _) _
                have h2 := own_new w2 #[.slice (some ⟨g, 0, none⟩) 1 1, Value.int IntKind.i64 3] 94
                rw [← hW2] at h2 ⊢
                have r3 := r2.below b22
                have hd0 : W2.cell? ⟨w2.heap.size, 0, none⟩ = some (.slice (some ⟨g, 0, none⟩) 1 1) := h2.cell 0
                have hd1 : W2.cell? ⟨w2.heap.size, 1, none⟩ = some (.int .i64 3) := h2.cell 1
                have b03 : Below wr.heap.size wr W2 := bthen b22 b01
                have bWW : Below WS.heap.size WS W2 := bthen b03 hq'.out
                have e0 := cell_below c0 b03
                have se := cell_below sk b03
                have og := ho.below b22
                have g0 : W2.cell? ⟨g, 0, none⟩ = some (.int .u8 x) := og.cell 0
                clear og ho
                have R3 := Lib.hid r3
                have H2 := Lib.hid h2
                clear hW2 b22 h2 r2 r3 c0 sk hsl hb1 hb2 hG hH b01
                have EQ : ∀ k, Calls Try.prog 43 #[.slice (some ⟨g, 0, none⟩) 1 1, .slice (some ⟨gb, off, none⟩) 1 cap] (W2.drewN k) fun e w' => e = .returned (.bool true) ∧ ∃ m, w' = (W2.drewN k).drewN m := by
                  intro k
                  have h := equal_same g 0 1 gb off cap [x] [x] (W2.drewN k) (by simp) rfl (sees1 g0) (sees1 e0)
                  rw [show decide ([x] = [x]) = true by simp] at h
                  exact h
                have r3q := R3.out
                have q0 := own4 r3q
                have qf0 := r3q.frozen 0
                have qf1 := r3q.frozen 1
                have qf2 := r3q.frozen 2
                have qf3 := r3q.frozen 3
                go_quiet ((go_at_call 43; refine Calls.quiet_of (EQ _)))
                go_wp2_with (first | (go_at_call 44; refine (size_3 _ 1 1 (by omega) _).mono ?_; rintro e w3 ⟨rfl, hb3⟩; have r4 := (R3.out.drewN nq).below hb3; have q4 := own4 r4; have qf0 := r4.frozen 0; have qf1 := r4.frozen 1; have qf2 := r4.frozen 2; have qf3 := r4.frozen 3; have l4 := r4.lt))
                refine bodyPost_ret (v := toldV (readL [x])) ?_ rfl ⟨rfl, ?_⟩
                · rw [hres.out]
                  simp [toldV, shortT, results, Try.results23, go_sem, q4, l4]
                · exact bset (by simp) (bset (by simp) (bset (by simp) (bset (by simp) (bthen hb3 (bdrewN (bthen bWW BWR.out) _)))))
            have hno := Lib.hid (try_none1 [b0] (k : Int) op d s t [x] hg2.out hh2.out (.inr (.inl (by simp; exact hx))))
            go_wp2_with (first
              | (go_at_call 41; refine (hG _).mono ?_; rintro e w1 ⟨rfl, hb1⟩)
              | (go_at_call 42; refine (hH _).mono ?_; rintro e w2 ⟨sl, rfl, hsl, hb2⟩; obtain ⟨g, rfl, hg, ho, hg2'⟩ := isb_list hsl))
            have b01 : Below wr.heap.size wr w2 := bthen hb2 hb1
            have r2 := r1'.out.below b01
            obtain ⟨W2, hW2⟩ : ∃ W2, W2 = w2.alloc (Obj.cells #[.slice (some ⟨g, 0, none⟩) 1 1, Value.int IntKind.i64 t] 94) := ⟨_, rfl⟩
            have b22 : Below w2.heap.size w2 W2 := by rw [hW2]; exact balloc (Below.refl _ _) _
            have h2 := own_new w2 #[.slice (some ⟨g, 0, none⟩) 1 1, Value.int IntKind.i64 t] 94
            rw [← hW2] at h2 ⊢
            have r3 := r2.below b22
            have hd0 : W2.cell? ⟨w2.heap.size, 0, none⟩ = some (.slice (some ⟨g, 0, none⟩) 1 1) := h2.cell 0
            have hd1 : W2.cell? ⟨w2.heap.size, 1, none⟩ = some (.int .i64 t) := h2.cell 1
            have b03 : Below wr.heap.size wr W2 := bthen b22 b01
            have bWW : Below WS.heap.size WS W2 := bthen b03 hq'.out
            have e0 := cell_below c0 b03
            have se := cell_below sk b03
            have og := ho.below b22
            have g0 : W2.cell? ⟨g, 0, none⟩ = some (.int .u8 x) := og.cell 0
            clear og ho
            have R3 := Lib.hid r3
            have H2 := Lib.hid h2
            clear hW2 b22 h2 r2 r3 c0 sk hsl hb1 hb2 hG hH b01
            have EQ : ∀ k, Calls Try.prog 43 #[.slice (some ⟨g, 0, none⟩) 1 1, .slice (some ⟨gb, off, none⟩) 1 cap] (W2.drewN k) fun e w' => e = .returned (.bool false) ∧ ∃ m, w' = (W2.drewN k).drewN m := by
              intro k
              have h := equal_same g 0 1 gb off cap [x] [b0] (W2.drewN k) (by simp) rfl (sees1 g0) (sees1 e0)
              rw [show decide ([x] = [b0]) = false by simp; exact hx] at h
              exact h
            go_quiet ((go_at_call 43; refine Calls.quiet_of (EQ _)))
            go_wp2
            go_roundw
            case rel => exact ⟨k + 1, by omega, by go_num, next'.out hno.out, bdrewN bWW _⟩
            case measure => simp [intOf]; omega
          | [x, y], _, hH, hh2 =>
            by_cases hx : x = b0
            · by_cases hy : y = (k : Int)
              · subst hx
                rcases ht with rfl | rfl | rfl | rfl
                · have hres := Lib.hid (show readL [x] = shortT from congrArg (fun o : Option Told => o.getD noneT) (first_at x k hk2 _ hall'.out (try_short [x] (k : Int) op d s 0 [x, y] hg2.out hh2.out (by simp) (by simp) (by intro _; exact hy) (by simp [sizeL, tailN]))))
                  go_wp2_with (first
                    | (go_at_call 41; refine (hG _).mono ?_; rintro e w1 ⟨rfl, hb1⟩)
                    | (go_at_call 42; refine (hH _).mono ?_; rintro e w2 ⟨sl, rfl, hsl, hb2⟩; obtain ⟨g, rfl, hg, ho, hg2'⟩ := isb_list hsl))
                  have b01 : Below wr.heap.size wr w2 := bthen hb2 hb1
                  have r2 := r1'.out.below b01
                  obtain ⟨W2, hW2⟩ : ∃ W2, W2 = w2.alloc (Obj.cells #[.slice (some ⟨g, 0, none⟩) 2 2, Value.int IntKind.i64 0] 94) := ⟨_, rfl⟩
                  have b22 : Below w2.heap.size w2 W2 := by rw [hW2]; exact balloc (Below.refl _ _) _
                  have h2 := own_new w2 #[.slice (some ⟨g, 0, none⟩) 2 2, Value.int IntKind.i64 0] 94
                  rw [← hW2] at h2 ⊢
                  have r3 := r2.below b22
                  have hd0 : W2.cell? ⟨w2.heap.size, 0, none⟩ = some (.slice (some ⟨g, 0, none⟩) 2 2) := h2.cell 0
                  have hd1 : W2.cell? ⟨w2.heap.size, 1, none⟩ = some (.int .i64 0) := h2.cell 1
                  have b03 : Below wr.heap.size wr W2 := bthen b22 b01
                  have bWW : Below WS.heap.size WS W2 := bthen b03 hq'.out
                  have e0 := cell_below c0 b03
                  have se := cell_below sk b03
                  have og := ho.below b22
                  have g0 : W2.cell? ⟨g, 0, none⟩ = some (.int .u8 x) := og.cell 0
                  have g1 : W2.cell? ⟨g, 1, none⟩ = some (.int .u8 y) := og.cell 1
                  clear og ho
                  have R3 := Lib.hid r3
                  have H2 := Lib.hid h2
                  clear hW2 b22 h2 r2 r3 c0 sk hsl hb1 hb2 hG hH b01
                  have EQ : ∀ k, Calls Try.prog 43 #[.slice (some ⟨g, 0, none⟩) 1 2, .slice (some ⟨gb, off, none⟩) 1 cap] (W2.drewN k) fun e w' => e = .returned (.bool true) ∧ ∃ m, w' = (W2.drewN k).drewN m := by
                    intro k
                    have h := equal_same g 0 2 gb off cap [x] [x] (W2.drewN k) (by simp) rfl (sees1 g0) (sees1 e0)
                    rw [show decide ([x] = [x]) = true by simp] at h
                    exact h
                  have r3q := R3.out
                  have q0 := own4 r3q
                  have qf0 := r3q.frozen 0
                  have qf1 := r3q.frozen 1
                  have qf2 := r3q.frozen 2
                  have qf3 := r3q.frozen 3
                  go_quiet ((go_at_call 43; refine Calls.quiet_of (EQ _)))
                  go_wp2_with (first | (go_at_call 44; refine (size_0 _ 2 2 (by omega) _).mono ?_; rintro e w3 ⟨rfl, hb3⟩; have r4 := (R3.out.drewN nq).below hb3; have q4 := own4 r4; have qf0 := r4.frozen 0; have qf1 := r4.frozen 1; have qf2 := r4.frozen 2; have qf3 := r4.frozen 3; have l4 := r4.lt))
                  refine bodyPost_ret (v := toldV (readL [x])) ?_ rfl ⟨rfl, ?_⟩
                  · rw [hres.out]
                    simp [toldV, shortT, results, Try.results23, go_sem, q4, l4]
                  · exact bset (by simp) (bset (by simp) (bset (by simp) (bset (by simp) (bthen hb3 (bdrewN (bthen bWW BWR.out) _)))))
                · have hres := Lib.hid (show readL [x] = shortT from congrArg (fun o : Option Told => o.getD noneT) (first_at x k hk2 _ hall'.out (try_short [x] (k : Int) op d s 1 [x, y] hg2.out hh2.out (by simp) (by simp) (by intro _; exact hy) (by simp [sizeL, tailN]))))
                  go_wp2_with (first
                    | (go_at_call 41; refine (hG _).mono ?_; rintro e w1 ⟨rfl, hb1⟩)
                    | (go_at_call 42; refine (hH _).mono ?_; rintro e w2 ⟨sl, rfl, hsl, hb2⟩; obtain ⟨g, rfl, hg, ho, hg2'⟩ := isb_list hsl))
                  have b01 : Below wr.heap.size wr w2 := bthen hb2 hb1
                  have r2 := r1'.out.below b01
                  obtain ⟨W2, hW2⟩ : ∃ W2, W2 = w2.alloc (Obj.cells #[.slice (some ⟨g, 0, none⟩) 2 2, Value.int IntKind.i64 1] 94) := ⟨_, rfl⟩
                  have b22 : Below w2.heap.size w2 W2 := by rw [hW2]; exact balloc (Below.refl _ _) _
                  have h2 := own_new w2 #[.slice (some ⟨g, 0, none⟩) 2 2, Value.int IntKind.i64 1] 94
                  rw [← hW2] at h2 ⊢
                  have r3 := r2.below b22
                  have hd0 : W2.cell? ⟨w2.heap.size, 0, none⟩ = some (.slice (some ⟨g, 0, none⟩) 2 2) := h2.cell 0
                  have hd1 : W2.cell? ⟨w2.heap.size, 1, none⟩ = some (.int .i64 1) := h2.cell 1
                  have b03 : Below wr.heap.size wr W2 := bthen b22 b01
                  have bWW : Below WS.heap.size WS W2 := bthen b03 hq'.out
                  have e0 := cell_below c0 b03
                  have se := cell_below sk b03
                  have og := ho.below b22
                  have g0 : W2.cell? ⟨g, 0, none⟩ = some (.int .u8 x) := og.cell 0
                  have g1 : W2.cell? ⟨g, 1, none⟩ = some (.int .u8 y) := og.cell 1
                  clear og ho
                  have R3 := Lib.hid r3
                  have H2 := Lib.hid h2
                  clear hW2 b22 h2 r2 r3 c0 sk hsl hb1 hb2 hG hH b01
                  have EQ : ∀ k, Calls Try.prog 43 #[.slice (some ⟨g, 0, none⟩) 1 2, .slice (some ⟨gb, off, none⟩) 1 cap] (W2.drewN k) fun e w' => e = .returned (.bool true) ∧ ∃ m, w' = (W2.drewN k).drewN m := by
                    intro k
                    have h := equal_same g 0 2 gb off cap [x] [x] (W2.drewN k) (by simp) rfl (sees1 g0) (sees1 e0)
                    rw [show decide ([x] = [x]) = true by simp] at h
                    exact h
                  have r3q := R3.out
                  have q0 := own4 r3q
                  have qf0 := r3q.frozen 0
                  have qf1 := r3q.frozen 1
                  have qf2 := r3q.frozen 2
                  have qf3 := r3q.frozen 3
                  go_quiet ((go_at_call 43; refine Calls.quiet_of (EQ _)))
                  go_wp2_with (first | (go_at_call 44; refine (size_1 _ 2 2 (by omega) _).mono ?_; rintro e w3 ⟨rfl, hb3⟩; have r4 := (R3.out.drewN nq).below hb3; have q4 := own4 r4; have qf0 := r4.frozen 0; have qf1 := r4.frozen 1; have qf2 := r4.frozen 2; have qf3 := r4.frozen 3; have l4 := r4.lt))
                  refine bodyPost_ret (v := toldV (readL [x])) ?_ rfl ⟨rfl, ?_⟩
                  · rw [hres.out]
                    simp [toldV, shortT, results, Try.results23, go_sem, q4, l4]
                  · exact bset (by simp) (bset (by simp) (bset (by simp) (bset (by simp) (bthen hb3 (bdrewN (bthen bWW BWR.out) _)))))
                · have hres := Lib.hid (show readL [x] = shortT from congrArg (fun o : Option Told => o.getD noneT) (first_at x k hk2 _ hall'.out (try_short [x] (k : Int) op d s 2 [x, y] hg2.out hh2.out (by simp) (by simp) (by intro _; exact hy) (by simp [sizeL, tailN]))))
                  go_wp2_with (first
                    | (go_at_call 41; refine (hG _).mono ?_; rintro e w1 ⟨rfl, hb1⟩)
                    | (go_at_call 42; refine (hH _).mono ?_; rintro e w2 ⟨sl, rfl, hsl, hb2⟩; obtain ⟨g, rfl, hg, ho, hg2'⟩ := isb_list hsl))
                  have b01 : Below wr.heap.size wr w2 := bthen hb2 hb1
                  have r2 := r1'.out.below b01
                  obtain ⟨W2, hW2⟩ : ∃ W2, W2 = w2.alloc (Obj.cells #[.slice (some ⟨g, 0, none⟩) 2 2, Value.int IntKind.i64 2] 94) := ⟨_, rfl⟩
                  have b22 : Below w2.heap.size w2 W2 := by rw [hW2]; exact balloc (Below.refl _ _) _
                  have h2 := own_new w2 #[.slice (some ⟨g, 0, none⟩) 2 2, Value.int IntKind.i64 2] 94
                  rw [← hW2] at h2 ⊢
                  have r3 := r2.below b22
                  have hd0 : W2.cell? ⟨w2.heap.size, 0, none⟩ = some (.slice (some ⟨g, 0, none⟩) 2 2) := h2.cell 0
                  have hd1 : W2.cell? ⟨w2.heap.size, 1, none⟩ = some (.int .i64 2) := h2.cell 1
                  have b03 : Below wr.heap.size wr W2 := bthen b22 b01
                  have bWW : Below WS.heap.size WS W2 := bthen b03 hq'.out
                  have e0 := cell_below c0 b03
                  have se := cell_below sk b03
                  have og := ho.below b22
                  have g0 : W2.cell? ⟨g, 0, none⟩ = some (.int .u8 x) := og.cell 0
                  have g1 : W2.cell? ⟨g, 1, none⟩ = some (.int .u8 y) := og.cell 1
                  clear og ho
                  have R3 := Lib.hid r3
                  have H2 := Lib.hid h2
                  clear hW2 b22 h2 r2 r3 c0 sk hsl hb1 hb2 hG hH b01
                  have EQ : ∀ k, Calls Try.prog 43 #[.slice (some ⟨g, 0, none⟩) 1 2, .slice (some ⟨gb, off, none⟩) 1 cap] (W2.drewN k) fun e w' => e = .returned (.bool true) ∧ ∃ m, w' = (W2.drewN k).drewN m := by
                    intro k
                    have h := equal_same g 0 2 gb off cap [x] [x] (W2.drewN k) (by simp) rfl (sees1 g0) (sees1 e0)
                    rw [show decide ([x] = [x]) = true by simp] at h
                    exact h
                  have r3q := R3.out
                  have q0 := own4 r3q
                  have qf0 := r3q.frozen 0
                  have qf1 := r3q.frozen 1
                  have qf2 := r3q.frozen 2
                  have qf3 := r3q.frozen 3
                  go_quiet ((go_at_call 43; refine Calls.quiet_of (EQ _)))
                  go_wp2_with (first | (go_at_call 44; refine (size_2 _ 2 2 (by omega) _).mono ?_; rintro e w3 ⟨rfl, hb3⟩; have r4 := (R3.out.drewN nq).below hb3; have q4 := own4 r4; have qf0 := r4.frozen 0; have qf1 := r4.frozen 1; have qf2 := r4.frozen 2; have qf3 := r4.frozen 3; have l4 := r4.lt))
                  refine bodyPost_ret (v := toldV (readL [x])) ?_ rfl ⟨rfl, ?_⟩
                  · rw [hres.out]
                    simp [toldV, shortT, results, Try.results23, go_sem, q4, l4]
                  · exact bset (by simp) (bset (by simp) (bset (by simp) (bset (by simp) (bthen hb3 (bdrewN (bthen bWW BWR.out) _)))))
                · have hres := Lib.hid (show readL [x] = shortT from congrArg (fun o : Option Told => o.getD noneT) (first_at x k hk2 _ hall'.out (try_short [x] (k : Int) op d s 3 [x, y] hg2.out hh2.out (by simp) (by simp) (by intro _; exact hy) (by simp [sizeL, tailN]))))
                  go_wp2_with (first
                    | (go_at_call 41; refine (hG _).mono ?_; rintro e w1 ⟨rfl, hb1⟩)
                    | (go_at_call 42; refine (hH _).mono ?_; rintro e w2 ⟨sl, rfl, hsl, hb2⟩; obtain ⟨g, rfl, hg, ho, hg2'⟩ := isb_list hsl))
                  have b01 : Below wr.heap.size wr w2 := bthen hb2 hb1
                  have r2 := r1'.out.below b01
                  obtain ⟨W2, hW2⟩ : ∃ W2, W2 = w2.alloc (Obj.cells #[.slice (some ⟨g, 0, none⟩) 2 2, Value.int IntKind.i64 3] 94) := ⟨_, rfl⟩
                  have b22 : Below w2.heap.size w2 W2 := by rw [hW2]; exact balloc (Below.refl _ _) _
                  have h2 := own_new w2 #[.slice (some ⟨g, 0, none⟩) 2 2, Value.int IntKind.i64 3] 94
                  rw [← hW2] at h2 ⊢
                  have r3 := r2.below b22
                  have hd0 : W2.cell? ⟨w2.heap.size, 0, none⟩ = some (.slice (some ⟨g, 0, none⟩) 2 2) := h2.cell 0
                  have hd1 : W2.cell? ⟨w2.heap.size, 1, none⟩ = some (.int .i64 3) := h2.cell 1
                  have b03 : Below wr.heap.size wr W2 := bthen b22 b01
                  have bWW : Below WS.heap.size WS W2 := bthen b03 hq'.out
                  have e0 := cell_below c0 b03
                  have se := cell_below sk b03
                  have og := ho.below b22
                  have g0 : W2.cell? ⟨g, 0, none⟩ = some (.int .u8 x) := og.cell 0
                  have g1 : W2.cell? ⟨g, 1, none⟩ = some (.int .u8 y) := og.cell 1
                  clear og ho
                  have R3 := Lib.hid r3
                  have H2 := Lib.hid h2
                  clear hW2 b22 h2 r2 r3 c0 sk hsl hb1 hb2 hG hH b01
                  have EQ : ∀ k, Calls Try.prog 43 #[.slice (some ⟨g, 0, none⟩) 1 2, .slice (some ⟨gb, off, none⟩) 1 cap] (W2.drewN k) fun e w' => e = .returned (.bool true) ∧ ∃ m, w' = (W2.drewN k).drewN m := by
                    intro k
                    have h := equal_same g 0 2 gb off cap [x] [x] (W2.drewN k) (by simp) rfl (sees1 g0) (sees1 e0)
                    rw [show decide ([x] = [x]) = true by simp] at h
                    exact h
                  have r3q := R3.out
                  have q0 := own4 r3q
                  have qf0 := r3q.frozen 0
                  have qf1 := r3q.frozen 1
                  have qf2 := r3q.frozen 2
                  have qf3 := r3q.frozen 3
                  go_quiet ((go_at_call 43; refine Calls.quiet_of (EQ _)))
                  go_wp2_with (first | (go_at_call 44; refine (size_3 _ 2 2 (by omega) _).mono ?_; rintro e w3 ⟨rfl, hb3⟩; have r4 := (R3.out.drewN nq).below hb3; have q4 := own4 r4; have qf0 := r4.frozen 0; have qf1 := r4.frozen 1; have qf2 := r4.frozen 2; have qf3 := r4.frozen 3; have l4 := r4.lt))
                  refine bodyPost_ret (v := toldV (readL [x])) ?_ rfl ⟨rfl, ?_⟩
                  · rw [hres.out]
                    simp [toldV, shortT, results, Try.results23, go_sem, q4, l4]
                  · exact bset (by simp) (bset (by simp) (bset (by simp) (bset (by simp) (bthen hb3 (bdrewN (bthen bWW BWR.out) _)))))
              · subst hx
                have hno := Lib.hid (try_none1 [x] (k : Int) op d s t [x, y] hg2.out hh2.out (.inr (.inr ⟨rfl, hy⟩)))
                go_wp2_with (first
                  | (go_at_call 41; refine (hG _).mono ?_; rintro e w1 ⟨rfl, hb1⟩)
                  | (go_at_call 42; refine (hH _).mono ?_; rintro e w2 ⟨sl, rfl, hsl, hb2⟩; obtain ⟨g, rfl, hg, ho, hg2'⟩ := isb_list hsl))
                have b01 : Below wr.heap.size wr w2 := bthen hb2 hb1
                have r2 := r1'.out.below b01
                obtain ⟨W2, hW2⟩ : ∃ W2, W2 = w2.alloc (Obj.cells #[.slice (some ⟨g, 0, none⟩) 2 2, Value.int IntKind.i64 t] 94) := ⟨_, rfl⟩
                have b22 : Below w2.heap.size w2 W2 := by rw [hW2]; exact balloc (Below.refl _ _) _
                have h2 := own_new w2 #[.slice (some ⟨g, 0, none⟩) 2 2, Value.int IntKind.i64 t] 94
                rw [← hW2] at h2 ⊢
                have r3 := r2.below b22
                have hd0 : W2.cell? ⟨w2.heap.size, 0, none⟩ = some (.slice (some ⟨g, 0, none⟩) 2 2) := h2.cell 0
                have hd1 : W2.cell? ⟨w2.heap.size, 1, none⟩ = some (.int .i64 t) := h2.cell 1
                have b03 : Below wr.heap.size wr W2 := bthen b22 b01
                have bWW : Below WS.heap.size WS W2 := bthen b03 hq'.out
                have e0 := cell_below c0 b03
                have se := cell_below sk b03
                have og := ho.below b22
                have g0 : W2.cell? ⟨g, 0, none⟩ = some (.int .u8 x) := og.cell 0
                have g1 : W2.cell? ⟨g, 1, none⟩ = some (.int .u8 y) := og.cell 1
                clear og ho
                have R3 := Lib.hid r3
                have H2 := Lib.hid h2
                clear hW2 b22 h2 r2 r3 c0 sk hsl hb1 hb2 hG hH b01
                have EQ : ∀ k, Calls Try.prog 43 #[.slice (some ⟨g, 0, none⟩) 1 2, .slice (some ⟨gb, off, none⟩) 1 cap] (W2.drewN k) fun e w' => e = .returned (.bool true) ∧ ∃ m, w' = (W2.drewN k).drewN m := by
                  intro k
                  have h := equal_same g 0 2 gb off cap [x] [x] (W2.drewN k) (by simp) rfl (sees1 g0) (sees1 e0)
                  rw [show decide ([x] = [x]) = true by simp] at h
                  exact h
                go_quiet ((go_at_call 43; refine Calls.quiet_of (EQ _)))
                go_wp2
                go_roundw
                case rel => exact ⟨k + 1, by omega, by go_num, next'.out hno.out, bdrewN bWW _⟩
                case measure => simp [intOf]; omega
            have hno := Lib.hid (try_none1 [b0] (k : Int) op d s t [x, y] hg2.out hh2.out (.inr (.inl (by simp; exact hx))))
            go_wp2_with (first
              | (go_at_call 41; refine (hG _).mono ?_; rintro e w1 ⟨rfl, hb1⟩)
              | (go_at_call 42; refine (hH _).mono ?_; rintro e w2 ⟨sl, rfl, hsl, hb2⟩; obtain ⟨g, rfl, hg, ho, hg2'⟩ := isb_list hsl))
            have b01 : Below wr.heap.size wr w2 := bthen hb2 hb1
            have r2 := r1'.out.below b01
            obtain ⟨W2, hW2⟩ : ∃ W2, W2 = w2.alloc (Obj.cells #[.slice (some ⟨g, 0, none⟩) 2 2, Value.int IntKind.i64 t] 94) := ⟨_, rfl⟩
            have b22 : Below w2.heap.size w2 W2 := by rw [hW2]; exact balloc (Below.refl _ _) _
            have h2 := own_new w2 #[.slice (some ⟨g, 0, none⟩) 2 2, Value.int IntKind.i64 t] 94
            rw [← hW2] at h2 ⊢
            have r3 := r2.below b22
            have hd0 : W2.cell? ⟨w2.heap.size, 0, none⟩ = some (.slice (some ⟨g, 0, none⟩) 2 2) := h2.cell 0
            have hd1 : W2.cell? ⟨w2.heap.size, 1, none⟩ = some (.int .i64 t) := h2.cell 1
            have b03 : Below wr.heap.size wr W2 := bthen b22 b01
            have bWW : Below WS.heap.size WS W2 := bthen b03 hq'.out
            have e0 := cell_below c0 b03
            have se := cell_below sk b03
            have og := ho.below b22
            have g0 : W2.cell? ⟨g, 0, none⟩ = some (.int .u8 x) := og.cell 0
            have g1 : W2.cell? ⟨g, 1, none⟩ = some (.int .u8 y) := og.cell 1
            clear og ho
            have R3 := Lib.hid r3
            have H2 := Lib.hid h2
            clear hW2 b22 h2 r2 r3 c0 sk hsl hb1 hb2 hG hH b01
            have EQ : ∀ k, Calls Try.prog 43 #[.slice (some ⟨g, 0, none⟩) 1 2, .slice (some ⟨gb, off, none⟩) 1 cap] (W2.drewN k) fun e w' => e = .returned (.bool false) ∧ ∃ m, w' = (W2.drewN k).drewN m := by
              intro k
              have h := equal_same g 0 2 gb off cap [x] [b0] (W2.drewN k) (by simp) rfl (sees1 g0) (sees1 e0)
              rw [show decide ([x] = [b0]) = false by simp; exact hx] at h
              exact h
            go_quiet ((go_at_call 43; refine Calls.quiet_of (EQ _)))
            go_wp2
            go_roundw
            case rel => exact ⟨k + 1, by omega, by go_num, next'.out hno.out, bdrewN bWW _⟩
            case measure => simp [intOf]; omega
          | _ :: _ :: _ :: _, hl, _, _ => simp at hl
        · obtain rfl : k = 256 := by omega
          have hres := Lib.hid (show readL [b0] = noneT from congrArg (fun o : Option Told => o.getD noneT) (first_no b0 (fun j hj => hall j hj)))
          have q0 := own4 r1
          have qf0 := r1.frozen 0
          have qf1 := r1.frozen 1
          have qf2 := r1.frozen 2
          have qf3 := r1.frozen 3
          have bb := bthen hq BWR.out
          clear hall hq r1
          go_wp2
          refine bodyPost_ret (v := toldV (readL [b0])) ?_ rfl ⟨rfl, ?_⟩
          · rw [hres.out]
            simp [toldV, noneT, results, Try.results23, go_sem, q0, hz1]
          · exact bset (by simp) (bset (by simp) (bset (by simp) (bset (by simp) bb)))

end Go.Proofs.Ytbhkndblolegaaa
