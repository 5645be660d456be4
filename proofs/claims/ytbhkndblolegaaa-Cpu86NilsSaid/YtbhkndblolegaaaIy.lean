/- The walk of isa86.Bytes. -/
import Derived.Test.YtbhkndblolegaaaIr
import Derived.Deep.RegionHeld3
import Derived.Deep.RegionLawGrows
import Derived.OwnWalk
import Derived.Deep.AppendLies
namespace Go.Proofs.Ytbhkndblolegaaa
open Go.RowKit
set_option linter.unusedVariables false
set_option linter.unusedSimpArgs false

theorem info_u8 : (Try.prog.info? 5).map (fun i => (i.zero, i.size, i.bytes)) = some (some (.int .u8 0), 1, 1) := by kernel_rfl

/-- A slice of bytes in a block from B on; nil where it is empty. -/
def RowB (w : World) (B : Nat) (v : Value) (bs : List Int) : Prop :=
  (bs = [] ∧ v = .slice none 0 0) ∨ (bs ≠ [] ∧ ∃ g cap, B ≤ g ∧ g < w.heap.size ∧ bs.length ≤ cap ∧ v = .slice (some ⟨g, 0, none⟩) bs.length cap ∧ SeesB w g 0 bs)

theorem isb_own {w : World} {B : Nat} {v : Value} {bs : List Int} {t : Int} (h : IsB w B v (bs, t).1) (hbs : ¬ bs = []) (hlen : bs.length ≤ 2) :
    ∃ g L, v = .slice (some ⟨g, 0, none⟩) L L ∧ B ≤ g ∧ Own w g (bs.map (Value.int .u8)).toArray 5 ∧ Hid (L = bs.length) ∧ (L = 1 ∨ L = 2) ∧ g < w.heap.size := by
  rcases h with ⟨he, _⟩ | ⟨_, g, hg, rfl, ho⟩
  · exact absurd he hbs
  · exact ⟨g, bs.length, rfl, hg, ho, Lib.hid rfl, by cases bs with | nil => exact absurd rfl hbs | cons x xs => (have h9 : xs.length + 1 ≤ 2 := hlen; simp only [List.length_cons]; omega), ho.lt⟩

theorem bgrown {W w' w3 : World} (h : Below W.heap.size W w') (k : w'.grownBy w3 none) : Below W.heap.size W w3 :=
  ⟨k.os.trans h.os, k.tape.trans h.tape, k.output.trans h.output, Nat.le_trans h.size k.size, fun i hi => (k.block i (Nat.lt_of_lt_of_le hi h.size) (by simp)).trans (h.block i hi)⟩
theorem app1 {w : World} {g : Nat} {cs : List Value} {t : TypeId} (h : Own w g cs.toArray t) : ∀ b, some (⟨g, 0, none⟩ : Addr) = some b → ∀ j u, cs[j]? = some u → w.cell? (b.add j) = some u := by
  rintro b hb j u hu
  cases hb
  exact World.news_of_block (w := w) (B := g) (cs := cs.toArray) h j u (by simpa using hu)
theorem app2 {w : World} {g : Nat} {x y : Value} {t : TypeId} (h : Own w g #[x, y] t) : ∀ j u, [x][j]? = some u → w.cell? ((⟨g, 0, none⟩ : Addr).add j) = some u := by
  intro j u hu
  have : j = 0 ∧ x = u := by rcases j with _ | j <;> simp_all
  obtain ⟨rfl, rfl⟩ := this
  exact h.cell 0
theorem app3 {w : World} {g : Nat} {x y : Value} {t : TypeId} (h : Own w g #[x, y] t) : ∀ j u, [x, y][j]? = some u → w.cell? ((⟨g, 0, none⟩ : Addr).add j) = some u :=
  World.news_of_block (w := w) (B := g) (cs := #[x, y]) h
/-- What was appended, as bytes. -/
theorem rowb_of_owns {w : World} {B B' : Nat} {v : Value} {m : Nat} {xs : List Int} (hB : B ≤ B') (h : w.ownsRow B' 5 1 v m (xs.map (Value.int .u8))) (hm : m = xs.length) (hx : xs ≠ []) : RowB w B v xs := by
  right
  refine ⟨hx, ?_⟩
  obtain ⟨hl, h⟩ := h
  rcases h with ⟨_, h0⟩ | ⟨g, cap, cur, rfl, hb, hg, hn, hcap, hcur, ht⟩
  · exfalso; rw [hm] at h0; exact hx (List.eq_nil_of_length_eq_zero h0)
  · refine ⟨g, cap, Nat.le_trans hB hb, (Array.getElem?_eq_some_iff.1 hg).1, by omega, by rw [hm], fun j hj => ?_⟩
    rw [World.cell?, Nat.zero_add]
    have hg' : w.heap[(⟨g, j, none⟩ : Addr).block]? = some (.cells cur 5 (0, 0)) := hg
    simp only [hg']
    have h2 : (cur.toList.take (m * 1))[j]? = (xs.map (Value.int .u8))[j]? := by rw [ht]
    rw [List.getElem?_take] at h2
    rw [if_pos (by omega)] at h2
    simp [hj] at h2 ⊢
    simpa [List.getD, hj] using h2

theorem sees_own {w : World} {g : Nat} {bs : List Int} {t : TypeId} (h : Own w g (bs.map (Value.int .u8)).toArray t) : SeesB w g 0 bs := by
  intro j hj
  rw [h.cell]
  simp [hj, List.getD]
theorem World.setCells_none (w : World) (b o : Nat) : w.setCells b o [] = w := rfl

set_option maxRecDepth 100000 in
set_option maxHeartbeats 1000000 in
theorem bytes_0 (op d s n : Int) (n0 : 0 ≤ n) (n1 : n ≤ 65535) (bs : List Int) (hbs : ¬ bs = []) (hlen : bs.length ≤ 2)
    (hr : ∀ w, Calls Try.prog 45 #[.agg #[.int .i64 op, .int .i64 d, .int .i64 s, .int .u16 n]] w fun e w' => e = .returned (.int .i64 0) ∧ Below w.heap.size w w')
    (hh : ∀ w, Calls Try.prog 42 #[.int .i64 op, .int .i64 d, .int .i64 s] w (HeadIs w (bs, 0))) (w : World) :
    Calls Try.prog 24 #[.agg #[.int .i64 op, .int .i64 d, .int .i64 s, .int .u16 n]] w fun e w' => ∃ v, e = .returned (.tuple #[v, .int .i64 0]) ∧ RowB w' w.heap.size v bs ∧ Below w.heap.size w w' := by
  obtain ⟨i0, hi, hz0, hz1, hz2⟩ := info_parts info_u8
  have o := own_new w #[.int .i64 op, .int .i64 d, .int .i64 s, .int .u16 n] 52
  have oc := own4 o
  go_enter Try.func24, Try.ntmps24
  go_wp2_with (first
    | (go_at_call 45; refine (hr _).mono ?_; rintro e w1 ⟨rfl, hb1⟩; have o1 := o.below hb1; have k := own4 o1)
    | (go_at_call 42; refine (hh _).mono ?_; rintro e w2 ⟨sl, rfl, hsl, hb2⟩; have o2 := o1.below hb2; have k2 := own4 o2; have hz : w.heap.size < w2.heap.size := o2.lt; obtain ⟨g, L, rfl, hg, hown, hL, hL2, hg2⟩ := isb_own hsl hbs hlen; clear hsl k o oc))
  obtain ⟨W, hW⟩ : ∃ W, W = ((w2.alloc (Obj.cells #[Value.slice (some ⟨g, 0, none⟩) L L, Value.int IntKind.i64 0] 94)).alloc (Obj.cells #[Value.int IntKind.u8 (n % 256), Value.int IntKind.u8 (n / 256)] 5)) := ⟨_, rfl⟩
  have oh := (own_new w2 #[Value.slice (some ⟨g, 0, none⟩) L L, Value.int IntKind.i64 0] 94).alloc (Obj.cells #[Value.int IntKind.u8 (n % 256), Value.int IntKind.u8 (n / 256)] 5)
  have on := own_new (w2.alloc (Obj.cells #[Value.slice (some ⟨g, 0, none⟩) L L, Value.int IntKind.i64 0] 94)) #[Value.int IntKind.u8 (n % 256), Value.int IntKind.u8 (n / 256)] 5
  have ob := (hown.alloc (Obj.cells #[Value.slice (some ⟨g, 0, none⟩) L L, Value.int IntKind.i64 0] 94)).alloc (Obj.cells #[Value.int IntKind.u8 (n % 256), Value.int IntKind.u8 (n / 256)] 5)
  rw [World.size_alloc] at on
  have hz3 : w.heap.size ≤ g := Nat.le_trans (Nat.le_of_lt (by have := hb1.size; rw [World.size_alloc] at this; omega)) hg
  have bW : Below w.heap.size w W := by
    rw [hW]
    exact balloc (balloc (bthen hb2 (bthen hb1 (balloc (Below.refl _ _) _))) _) _
  rw [← hW] at oh on ob ⊢
  clear hW o1 k2 o2 hr hh hb1 hb2 hown
  have ch := oh.cell 0
  have ch1 := oh.cell 1
  have hw0 : IntKind.i64.wrap 0 = 0 := by decide
  have hw1 : IntKind.i64.wrap 1 = 1 := by decide
  have hw2 : IntKind.i64.wrap 2 = 2 := by decide
  rcases hL2 with rfl | rfl
  · go_region_held3 (fun w' => (w'.cell? ⟨w2.heap.size, 0, none⟩ = some (.slice (some ⟨g, 0, none⟩) 1 1) ∧ w'.cell? ⟨w2.heap.size, 1, none⟩ = some (.int .i64 0)) ∧ Below W.heap.size W w')
      ((refine (fun hB => ⟨⟨cell_below ch hB, cell_below ch1 hB⟩, hB⟩) ?_; (first | with_reducible exact Below.refl _ _ | with_reducible exact bdrew (Below.refl _ _) | (go_split_ands; first | assumption | (refine bthen (by assumption) ?_; assumption) | (refine bgrown ?_ (by assumption); assumption)))))
      (first
        | (refine step_append_room rfl (.tmp 28) (.tmp 36) 26 rfl 5 i0 1 Try.underlying26 hi hz1 g 0 1 1 (by simp [Act.eval, Act.put]) ⟨w2.heap.size + 1, 0, none⟩ 0 2 [] (by simp [Act.eval, Act.put, hw0, hw1, hw2]) rfl (by simp) (by simp) (by omega) (by simp) ?_; simp only [World.setCells_none])
        | (go_simp; go_at_call 44; refine (size_0 _ 1 1 (by omega) _).mono ?_; rintro e wn ⟨rfl, hbn⟩))
    go_wp2
    go_ret2
    go_split_ands
    have hB : Below W.heap.size W wn := by assumption
    exact ⟨_, rfl, .inr ⟨hbs, g, 1, hz3, (ob.below hB).lt, Nat.le_of_eq hL.out.symm, by rw [← hL.out]; rfl, sees_own (ob.below hB)⟩, bthen hB bW⟩
  · go_region_held3 (fun w' => (w'.cell? ⟨w2.heap.size, 0, none⟩ = some (.slice (some ⟨g, 0, none⟩) 2 2) ∧ w'.cell? ⟨w2.heap.size, 1, none⟩ = some (.int .i64 0)) ∧ Below W.heap.size W w')
      ((refine (fun hB => ⟨⟨cell_below ch hB, cell_below ch1 hB⟩, hB⟩) ?_; (first | with_reducible exact Below.refl _ _ | with_reducible exact bdrew (Below.refl _ _) | (go_split_ands; first | assumption | (refine bthen (by assumption) ?_; assumption) | (refine bgrown ?_ (by assumption); assumption)))))
      (first
        | (refine step_append_room rfl (.tmp 28) (.tmp 36) 26 rfl 5 i0 1 Try.underlying26 hi hz1 g 0 2 2 (by simp [Act.eval, Act.put]) ⟨w2.heap.size + 1, 0, none⟩ 0 2 [] (by simp [Act.eval, Act.put, hw0, hw1, hw2]) rfl (by simp) (by simp) (by omega) (by simp) ?_; simp only [World.setCells_none])
        | (go_simp; go_at_call 44; refine (size_0 _ 2 2 (by omega) _).mono ?_; rintro e wn ⟨rfl, hbn⟩))
    go_wp2
    go_ret2
    go_split_ands
    have hB : Below W.heap.size W wn := by assumption
    exact ⟨_, rfl, .inr ⟨hbs, g, 2, hz3, (ob.below hB).lt, Nat.le_of_eq hL.out.symm, by rw [← hL.out]; rfl, sees_own (ob.below hB)⟩, bthen hB bW⟩

set_option maxRecDepth 100000 in
set_option maxHeartbeats 1000000 in
theorem bytes_1 (op d s n : Int) (n0 : 0 ≤ n) (n1 : n ≤ 65535) (bs : List Int) (hbs : ¬ bs = []) (hlen : bs.length ≤ 2)
    (hr : ∀ w, Calls Try.prog 45 #[.agg #[.int .i64 op, .int .i64 d, .int .i64 s, .int .u16 n]] w fun e w' => e = .returned (.int .i64 0) ∧ Below w.heap.size w w')
    (hh : ∀ w, Calls Try.prog 42 #[.int .i64 op, .int .i64 d, .int .i64 s] w (HeadIs w (bs, 1))) (w : World) :
    Calls Try.prog 24 #[.agg #[.int .i64 op, .int .i64 d, .int .i64 s, .int .u16 n]] w fun e w' => ∃ v, e = .returned (.tuple #[v, .int .i64 0]) ∧ RowB w' w.heap.size v (bs ++ [n % 256]) ∧ Below w.heap.size w w' := by
  obtain ⟨i0, hi, hz0, hz1, hz2⟩ := info_parts info_u8
  have o := own_new w #[.int .i64 op, .int .i64 d, .int .i64 s, .int .u16 n] 52
  have oc := own4 o
  go_enter Try.func24, Try.ntmps24
  go_wp2_with (first
    | (go_at_call 45; refine (hr _).mono ?_; rintro e w1 ⟨rfl, hb1⟩; have o1 := o.below hb1; have k := own4 o1)
    | (go_at_call 42; refine (hh _).mono ?_; rintro e w2 ⟨sl, rfl, hsl, hb2⟩; have o2 := o1.below hb2; have k2 := own4 o2; have hz : w.heap.size < w2.heap.size := o2.lt; obtain ⟨g, L, rfl, hg, hown, hL, hL2, hg2⟩ := isb_own hsl hbs hlen; clear hsl k o oc))
  obtain ⟨W, hW⟩ : ∃ W, W = ((w2.alloc (Obj.cells #[Value.slice (some ⟨g, 0, none⟩) L L, Value.int IntKind.i64 1] 94)).alloc (Obj.cells #[Value.int IntKind.u8 (n % 256), Value.int IntKind.u8 (n / 256)] 5)) := ⟨_, rfl⟩
  have oh := (own_new w2 #[Value.slice (some ⟨g, 0, none⟩) L L, Value.int IntKind.i64 1] 94).alloc (Obj.cells #[Value.int IntKind.u8 (n % 256), Value.int IntKind.u8 (n / 256)] 5)
  have on := own_new (w2.alloc (Obj.cells #[Value.slice (some ⟨g, 0, none⟩) L L, Value.int IntKind.i64 1] 94)) #[Value.int IntKind.u8 (n % 256), Value.int IntKind.u8 (n / 256)] 5
  have ob := (hown.alloc (Obj.cells #[Value.slice (some ⟨g, 0, none⟩) L L, Value.int IntKind.i64 1] 94)).alloc (Obj.cells #[Value.int IntKind.u8 (n % 256), Value.int IntKind.u8 (n / 256)] 5)
  rw [World.size_alloc] at on
  have hz3 : w.heap.size ≤ g := Nat.le_trans (Nat.le_of_lt (by have := hb1.size; rw [World.size_alloc] at this; omega)) hg
  have bW : Below w.heap.size w W := by
    rw [hW]
    exact balloc (balloc (bthen hb2 (bthen hb1 (balloc (Below.refl _ _) _))) _) _
  rw [← hW] at oh on ob ⊢
  clear hW o1 k2 o2 hr hh hb1 hb2 hown
  have ch := oh.cell 0
  have ch1 := oh.cell 1
  have hw0 : IntKind.i64.wrap 0 = 0 := by decide
  have hw1 : IntKind.i64.wrap 1 = 1 := by decide
  have hw2 : IntKind.i64.wrap 2 = 2 := by decide
  rcases hL2 with rfl | rfl
  · go_region_held3 (fun w' => (w'.cell? ⟨w2.heap.size, 0, none⟩ = some (.slice (some ⟨g, 0, none⟩) 1 1) ∧ w'.cell? ⟨w2.heap.size, 1, none⟩ = some (.int .i64 1)) ∧ Below W.heap.size W w')
      ((refine (fun hB => ⟨⟨cell_below ch hB, cell_below ch1 hB⟩, hB⟩) ?_; (first | with_reducible exact Below.refl _ _ | with_reducible exact bdrew (Below.refl _ _) | (go_split_ands; first | assumption | (refine bthen (by assumption) ?_; assumption) | (refine bgrown ?_ (by assumption); assumption)))))
      (first
        | (refine step_append_grows rfl (.tmp 28) (.tmp 36) 26 rfl 5 i0 (.int .u8 0) 1 1 Try.underlying26 hi hz0 hz1 hz2 rfl (by decide) (some ⟨g, 0, none⟩) 1 1 (bs.map (Value.int .u8)) (by simp [Act.eval, Act.put]) (by intro h; cases h) (by simp [← hL.out]) (app1 (ob.below (by go_split_ands; assumption))) ⟨w2.heap.size + 1, 0, none⟩ 1 2 [.int .u8 (n % 256)] (by simp [Act.eval, Act.put, hw1, hw2]) rfl (app2 (on.below (by go_split_ands; assumption))) (by intro u hu; simp at hu; subst hu; rfl) (by omega) (by unfold maxLen; omega) (by omega) ?_; intro v' w3 hown3 hgrow)
        | (go_simp; go_at_call 44; refine (size_1 _ 1 1 (by omega) _).mono ?_; rintro e wn ⟨rfl, hbn⟩))
    go_wp2
    go_ret2
    go_split_ands
    exact ⟨v', rfl, rowb_of_owns (Nat.le_trans bW.size hbn.size) (xs := (bs ++ [n % 256])) (by simpa using hown3) (by simp [← hL.out]) (by simp), bthen (by assumption) bW⟩
  · go_region_held3 (fun w' => (w'.cell? ⟨w2.heap.size, 0, none⟩ = some (.slice (some ⟨g, 0, none⟩) 2 2) ∧ w'.cell? ⟨w2.heap.size, 1, none⟩ = some (.int .i64 1)) ∧ Below W.heap.size W w')
      ((refine (fun hB => ⟨⟨cell_below ch hB, cell_below ch1 hB⟩, hB⟩) ?_; (first | with_reducible exact Below.refl _ _ | with_reducible exact bdrew (Below.refl _ _) | (go_split_ands; first | assumption | (refine bthen (by assumption) ?_; assumption) | (refine bgrown ?_ (by assumption); assumption)))))
      (first
        | (refine step_append_grows rfl (.tmp 28) (.tmp 36) 26 rfl 5 i0 (.int .u8 0) 1 1 Try.underlying26 hi hz0 hz1 hz2 rfl (by decide) (some ⟨g, 0, none⟩) 2 2 (bs.map (Value.int .u8)) (by simp [Act.eval, Act.put]) (by intro h; cases h) (by simp [← hL.out]) (app1 (ob.below (by go_split_ands; assumption))) ⟨w2.heap.size + 1, 0, none⟩ 1 2 [.int .u8 (n % 256)] (by simp [Act.eval, Act.put, hw1, hw2]) rfl (app2 (on.below (by go_split_ands; assumption))) (by intro u hu; simp at hu; subst hu; rfl) (by omega) (by unfold maxLen; omega) (by omega) ?_; intro v' w3 hown3 hgrow)
        | (go_simp; go_at_call 44; refine (size_1 _ 2 2 (by omega) _).mono ?_; rintro e wn ⟨rfl, hbn⟩))
    go_wp2
    go_ret2
    go_split_ands
    exact ⟨v', rfl, rowb_of_owns (Nat.le_trans bW.size hbn.size) (xs := (bs ++ [n % 256])) (by simpa using hown3) (by simp [← hL.out]) (by simp), bthen (by assumption) bW⟩

set_option maxRecDepth 100000 in
set_option maxHeartbeats 1000000 in
theorem bytes_2 (op d s n : Int) (n0 : 0 ≤ n) (n1 : n ≤ 65535) (bs : List Int) (hbs : ¬ bs = []) (hlen : bs.length ≤ 2)
    (hr : ∀ w, Calls Try.prog 45 #[.agg #[.int .i64 op, .int .i64 d, .int .i64 s, .int .u16 n]] w fun e w' => e = .returned (.int .i64 0) ∧ Below w.heap.size w w')
    (hh : ∀ w, Calls Try.prog 42 #[.int .i64 op, .int .i64 d, .int .i64 s] w (HeadIs w (bs, 2))) (w : World) :
    Calls Try.prog 24 #[.agg #[.int .i64 op, .int .i64 d, .int .i64 s, .int .u16 n]] w fun e w' => ∃ v, e = .returned (.tuple #[v, .int .i64 0]) ∧ RowB w' w.heap.size v (bs ++ [n % 256, n / 256]) ∧ Below w.heap.size w w' := by
  obtain ⟨i0, hi, hz0, hz1, hz2⟩ := info_parts info_u8
  have o := own_new w #[.int .i64 op, .int .i64 d, .int .i64 s, .int .u16 n] 52
  have oc := own4 o
  go_enter Try.func24, Try.ntmps24
  go_wp2_with (first
    | (go_at_call 45; refine (hr _).mono ?_; rintro e w1 ⟨rfl, hb1⟩; have o1 := o.below hb1; have k := own4 o1)
    | (go_at_call 42; refine (hh _).mono ?_; rintro e w2 ⟨sl, rfl, hsl, hb2⟩; have o2 := o1.below hb2; have k2 := own4 o2; have hz : w.heap.size < w2.heap.size := o2.lt; obtain ⟨g, L, rfl, hg, hown, hL, hL2, hg2⟩ := isb_own hsl hbs hlen; clear hsl k o oc))
  obtain ⟨W, hW⟩ : ∃ W, W = ((w2.alloc (Obj.cells #[Value.slice (some ⟨g, 0, none⟩) L L, Value.int IntKind.i64 2] 94)).alloc (Obj.cells #[Value.int IntKind.u8 (n % 256), Value.int IntKind.u8 (n / 256)] 5)) := ⟨_, rfl⟩
  have oh := (own_new w2 #[Value.slice (some ⟨g, 0, none⟩) L L, Value.int IntKind.i64 2] 94).alloc (Obj.cells #[Value.int IntKind.u8 (n % 256), Value.int IntKind.u8 (n / 256)] 5)
  have on := own_new (w2.alloc (Obj.cells #[Value.slice (some ⟨g, 0, none⟩) L L, Value.int IntKind.i64 2] 94)) #[Value.int IntKind.u8 (n % 256), Value.int IntKind.u8 (n / 256)] 5
  have ob := (hown.alloc (Obj.cells #[Value.slice (some ⟨g, 0, none⟩) L L, Value.int IntKind.i64 2] 94)).alloc (Obj.cells #[Value.int IntKind.u8 (n % 256), Value.int IntKind.u8 (n / 256)] 5)
  rw [World.size_alloc] at on
  have hz3 : w.heap.size ≤ g := Nat.le_trans (Nat.le_of_lt (by have := hb1.size; rw [World.size_alloc] at this; omega)) hg
  have bW : Below w.heap.size w W := by
    rw [hW]
    exact balloc (balloc (bthen hb2 (bthen hb1 (balloc (Below.refl _ _) _))) _) _
  rw [← hW] at oh on ob ⊢
  clear hW o1 k2 o2 hr hh hb1 hb2 hown
  have ch := oh.cell 0
  have ch1 := oh.cell 1
  have hw0 : IntKind.i64.wrap 0 = 0 := by decide
  have hw1 : IntKind.i64.wrap 1 = 1 := by decide
  have hw2 : IntKind.i64.wrap 2 = 2 := by decide
  rcases hL2 with rfl | rfl
  · go_region_held3 (fun w' => (w'.cell? ⟨w2.heap.size, 0, none⟩ = some (.slice (some ⟨g, 0, none⟩) 1 1) ∧ w'.cell? ⟨w2.heap.size, 1, none⟩ = some (.int .i64 2)) ∧ Below W.heap.size W w')
      ((refine (fun hB => ⟨⟨cell_below ch hB, cell_below ch1 hB⟩, hB⟩) ?_; (first | with_reducible exact Below.refl _ _ | with_reducible exact bdrew (Below.refl _ _) | (go_split_ands; first | assumption | (refine bthen (by assumption) ?_; assumption) | (refine bgrown ?_ (by assumption); assumption)))))
      (first
        | (refine step_append_grows rfl (.tmp 28) (.tmp 36) 26 rfl 5 i0 (.int .u8 0) 1 1 Try.underlying26 hi hz0 hz1 hz2 rfl (by decide) (some ⟨g, 0, none⟩) 1 1 (bs.map (Value.int .u8)) (by simp [Act.eval, Act.put]) (by intro h; cases h) (by simp [← hL.out]) (app1 (ob.below (by go_split_ands; assumption))) ⟨w2.heap.size + 1, 0, none⟩ 2 2 [.int .u8 (n % 256), .int .u8 (n / 256)] (by simp [Act.eval, Act.put, hw1, hw2]) rfl (app3 (on.below (by go_split_ands; assumption))) (by intro u hu; simp at hu; rcases hu with rfl | rfl <;> rfl) (by omega) (by unfold maxLen; omega) (by omega) ?_; intro v' w3 hown3 hgrow)
        | (go_simp; go_at_call 44; refine (size_2 _ 1 1 (by omega) _).mono ?_; rintro e wn ⟨rfl, hbn⟩))
    go_wp2
    go_ret2
    go_split_ands
    exact ⟨v', rfl, rowb_of_owns (Nat.le_trans bW.size hbn.size) (xs := (bs ++ [n % 256, n / 256])) (by simpa using hown3) (by simp [← hL.out]) (by simp), bthen (by assumption) bW⟩
  · go_region_held3 (fun w' => (w'.cell? ⟨w2.heap.size, 0, none⟩ = some (.slice (some ⟨g, 0, none⟩) 2 2) ∧ w'.cell? ⟨w2.heap.size, 1, none⟩ = some (.int .i64 2)) ∧ Below W.heap.size W w')
      ((refine (fun hB => ⟨⟨cell_below ch hB, cell_below ch1 hB⟩, hB⟩) ?_; (first | with_reducible exact Below.refl _ _ | with_reducible exact bdrew (Below.refl _ _) | (go_split_ands; first | assumption | (refine bthen (by assumption) ?_; assumption) | (refine bgrown ?_ (by assumption); assumption)))))
      (first
        | (refine step_append_grows rfl (.tmp 28) (.tmp 36) 26 rfl 5 i0 (.int .u8 0) 1 1 Try.underlying26 hi hz0 hz1 hz2 rfl (by decide) (some ⟨g, 0, none⟩) 2 2 (bs.map (Value.int .u8)) (by simp [Act.eval, Act.put]) (by intro h; cases h) (by simp [← hL.out]) (app1 (ob.below (by go_split_ands; assumption))) ⟨w2.heap.size + 1, 0, none⟩ 2 2 [.int .u8 (n % 256), .int .u8 (n / 256)] (by simp [Act.eval, Act.put, hw1, hw2]) rfl (app3 (on.below (by go_split_ands; assumption))) (by intro u hu; simp at hu; rcases hu with rfl | rfl <;> rfl) (by omega) (by unfold maxLen; omega) (by omega) ?_; intro v' w3 hown3 hgrow)
        | (go_simp; go_at_call 44; refine (size_2 _ 2 2 (by omega) _).mono ?_; rintro e wn ⟨rfl, hbn⟩))
    go_wp2
    go_ret2
    go_split_ands
    exact ⟨v', rfl, rowb_of_owns (Nat.le_trans bW.size hbn.size) (xs := (bs ++ [n % 256, n / 256])) (by simpa using hown3) (by simp [← hL.out]) (by simp), bthen (by assumption) bW⟩

set_option maxRecDepth 100000 in
set_option maxHeartbeats 1000000 in
theorem bytes_3 (op d s n : Int) (n0 : 0 ≤ n) (n1 : n ≤ 65535) (bs : List Int) (hbs : ¬ bs = []) (hlen : bs.length ≤ 2)
    (hr : ∀ w, Calls Try.prog 45 #[.agg #[.int .i64 op, .int .i64 d, .int .i64 s, .int .u16 n]] w fun e w' => e = .returned (.int .i64 0) ∧ Below w.heap.size w w')
    (hh : ∀ w, Calls Try.prog 42 #[.int .i64 op, .int .i64 d, .int .i64 s] w (HeadIs w (bs, 3))) (w : World) :
    Calls Try.prog 24 #[.agg #[.int .i64 op, .int .i64 d, .int .i64 s, .int .u16 n]] w fun e w' => ∃ v, e = .returned (.tuple #[v, .int .i64 0]) ∧ RowB w' w.heap.size v (bs ++ [n % 256]) ∧ Below w.heap.size w w' := by
  obtain ⟨i0, hi, hz0, hz1, hz2⟩ := info_parts info_u8
  have o := own_new w #[.int .i64 op, .int .i64 d, .int .i64 s, .int .u16 n] 52
  have oc := own4 o
  go_enter Try.func24, Try.ntmps24
  go_wp2_with (first
    | (go_at_call 45; refine (hr _).mono ?_; rintro e w1 ⟨rfl, hb1⟩; have o1 := o.below hb1; have k := own4 o1)
    | (go_at_call 42; refine (hh _).mono ?_; rintro e w2 ⟨sl, rfl, hsl, hb2⟩; have o2 := o1.below hb2; have k2 := own4 o2; have hz : w.heap.size < w2.heap.size := o2.lt; obtain ⟨g, L, rfl, hg, hown, hL, hL2, hg2⟩ := isb_own hsl hbs hlen; clear hsl k o oc))
  obtain ⟨W, hW⟩ : ∃ W, W = ((w2.alloc (Obj.cells #[Value.slice (some ⟨g, 0, none⟩) L L, Value.int IntKind.i64 3] 94)).alloc (Obj.cells #[Value.int IntKind.u8 (n % 256), Value.int IntKind.u8 (n / 256)] 5)) := ⟨_, rfl⟩
  have oh := (own_new w2 #[Value.slice (some ⟨g, 0, none⟩) L L, Value.int IntKind.i64 3] 94).alloc (Obj.cells #[Value.int IntKind.u8 (n % 256), Value.int IntKind.u8 (n / 256)] 5)
  have on := own_new (w2.alloc (Obj.cells #[Value.slice (some ⟨g, 0, none⟩) L L, Value.int IntKind.i64 3] 94)) #[Value.int IntKind.u8 (n % 256), Value.int IntKind.u8 (n / 256)] 5
  have ob := (hown.alloc (Obj.cells #[Value.slice (some ⟨g, 0, none⟩) L L, Value.int IntKind.i64 3] 94)).alloc (Obj.cells #[Value.int IntKind.u8 (n % 256), Value.int IntKind.u8 (n / 256)] 5)
  rw [World.size_alloc] at on
  have hz3 : w.heap.size ≤ g := Nat.le_trans (Nat.le_of_lt (by have := hb1.size; rw [World.size_alloc] at this; omega)) hg
  have bW : Below w.heap.size w W := by
    rw [hW]
    exact balloc (balloc (bthen hb2 (bthen hb1 (balloc (Below.refl _ _) _))) _) _
  rw [← hW] at oh on ob ⊢
  clear hW o1 k2 o2 hr hh hb1 hb2 hown
  have ch := oh.cell 0
  have ch1 := oh.cell 1
  have hw0 : IntKind.i64.wrap 0 = 0 := by decide
  have hw1 : IntKind.i64.wrap 1 = 1 := by decide
  have hw2 : IntKind.i64.wrap 2 = 2 := by decide
  rcases hL2 with rfl | rfl
  · go_region_held3 (fun w' => (w'.cell? ⟨w2.heap.size, 0, none⟩ = some (.slice (some ⟨g, 0, none⟩) 1 1) ∧ w'.cell? ⟨w2.heap.size, 1, none⟩ = some (.int .i64 3)) ∧ Below W.heap.size W w')
      ((refine (fun hB => ⟨⟨cell_below ch hB, cell_below ch1 hB⟩, hB⟩) ?_; (first | with_reducible exact Below.refl _ _ | with_reducible exact bdrew (Below.refl _ _) | (go_split_ands; first | assumption | (refine bthen (by assumption) ?_; assumption) | (refine bgrown ?_ (by assumption); assumption)))))
      (first
        | (refine step_append_grows rfl (.tmp 28) (.tmp 36) 26 rfl 5 i0 (.int .u8 0) 1 1 Try.underlying26 hi hz0 hz1 hz2 rfl (by decide) (some ⟨g, 0, none⟩) 1 1 (bs.map (Value.int .u8)) (by simp [Act.eval, Act.put]) (by intro h; cases h) (by simp [← hL.out]) (app1 (ob.below (by go_split_ands; assumption))) ⟨w2.heap.size + 1, 0, none⟩ 1 2 [.int .u8 (n % 256)] (by simp [Act.eval, Act.put, hw1, hw2]) rfl (app2 (on.below (by go_split_ands; assumption))) (by intro u hu; simp at hu; subst hu; rfl) (by omega) (by unfold maxLen; omega) (by omega) ?_; intro v' w3 hown3 hgrow)
        | (go_simp; go_at_call 44; refine (size_3 _ 1 1 (by omega) _).mono ?_; rintro e wn ⟨rfl, hbn⟩))
    go_wp2
    go_ret2
    go_split_ands
    exact ⟨v', rfl, rowb_of_owns (Nat.le_trans bW.size hbn.size) (xs := (bs ++ [n % 256])) (by simpa using hown3) (by simp [← hL.out]) (by simp), bthen (by assumption) bW⟩
  · go_region_held3 (fun w' => (w'.cell? ⟨w2.heap.size, 0, none⟩ = some (.slice (some ⟨g, 0, none⟩) 2 2) ∧ w'.cell? ⟨w2.heap.size, 1, none⟩ = some (.int .i64 3)) ∧ Below W.heap.size W w')
      ((refine (fun hB => ⟨⟨cell_below ch hB, cell_below ch1 hB⟩, hB⟩) ?_; (first | with_reducible exact Below.refl _ _ | with_reducible exact bdrew (Below.refl _ _) | (go_split_ands; first | assumption | (refine bthen (by assumption) ?_; assumption) | (refine bgrown ?_ (by assumption); assumption)))))
      (first
        | (refine step_append_grows rfl (.tmp 28) (.tmp 36) 26 rfl 5 i0 (.int .u8 0) 1 1 Try.underlying26 hi hz0 hz1 hz2 rfl (by decide) (some ⟨g, 0, none⟩) 2 2 (bs.map (Value.int .u8)) (by simp [Act.eval, Act.put]) (by intro h; cases h) (by simp [← hL.out]) (app1 (ob.below (by go_split_ands; assumption))) ⟨w2.heap.size + 1, 0, none⟩ 1 2 [.int .u8 (n % 256)] (by simp [Act.eval, Act.put, hw1, hw2]) rfl (app2 (on.below (by go_split_ands; assumption))) (by intro u hu; simp at hu; subst hu; rfl) (by omega) (by unfold maxLen; omega) (by omega) ?_; intro v' w3 hown3 hgrow)
        | (go_simp; go_at_call 44; refine (size_3 _ 2 2 (by omega) _).mono ?_; rintro e wn ⟨rfl, hbn⟩))
    go_wp2
    go_ret2
    go_split_ands
    exact ⟨v', rfl, rowb_of_owns (Nat.le_trans bW.size hbn.size) (xs := (bs ++ [n % 256])) (by simpa using hown3) (by simp [← hL.out]) (by simp), bthen (by assumption) bW⟩

set_option maxHeartbeats 400000 in
theorem bytes_wrong (op d s n k : Int) (hk : (k != 0) = true)
    (hr : ∀ w, Calls Try.prog 45 #[.agg #[.int .i64 op, .int .i64 d, .int .i64 s, .int .u16 n]] w fun e w' => e = .returned (.int .i64 k) ∧ Below w.heap.size w w') (w : World) :
    Calls Try.prog 24 #[.agg #[.int .i64 op, .int .i64 d, .int .i64 s, .int .u16 n]] w fun e w' => e = .returned (.tuple #[.slice none 0 0, .int .i64 k]) ∧ Below w.heap.size w w' := by
  have o := own_new w #[.int .i64 op, .int .i64 d, .int .i64 s, .int .u16 n] 52
  have oc := own4 o
  go_enter Try.func24, Try.ntmps24
  go_wp2_with (first
    | (go_at_call 45; refine (hr _).mono ?_; rintro e w1 ⟨rfl, hb1⟩; have o1 := o.below hb1; have k := own4 o1))
  go_ret2
  exact ⟨rfl, bthen hb1 (balloc (Below.refl _ _) _)⟩

def tailB (t n : Int) : List Int := if t = 1 ∨ t = 3 then [n % 256] else if t = 2 then [n % 256, n / 256] else []
def bytesL (op d s n : Int) : List Int := if rightL (headsL op d s) n = 0 then (headsL op d s).1 ++ tailB (headsL op d s).2 n else []

theorem bytes_any (op d s n : Int) (n0 : 0 ≤ n) (n1 : n ≤ 65535) (w : World) :
    Calls Try.prog 24 #[.agg #[.int .i64 op, .int .i64 d, .int .i64 s, .int .u16 n]] w fun e w' =>
      ∃ v, e = .returned (.tuple #[v, .int .i64 (rightL (headsL op d s) n)]) ∧ RowB w' w.heap.size v (bytesL op d s n) ∧ Below w.heap.size w w' := by
  have hr := fun w => right_any op d s n w
  by_cases hk : rightL (headsL op d s) n = 0
  · have hbs : ¬ (headsL op d s).1 = [] := by intro h; simp [rightL, h] at hk
    have hh := fun w => heads_any op d s w
    obtain ⟨ht, hl⟩ := heads_tail op d s
    rw [hk] at hr ⊢
    unfold bytesL
    rw [if_pos hk]
    generalize headsL op d s = H at *
    obtain ⟨bs, t⟩ := H
    rcases ht with rfl | rfl | rfl | rfl
    · simpa [tailB] using bytes_0 op d s n n0 n1 bs hbs hl hr hh w
    · simpa [tailB] using bytes_1 op d s n n0 n1 bs hbs hl hr hh w
    · simpa [tailB] using bytes_2 op d s n n0 n1 bs hbs hl hr hh w
    · simpa [tailB] using bytes_3 op d s n n0 n1 bs hbs hl hr hh w
  · unfold bytesL
    rw [if_neg hk]
    refine (bytes_wrong op d s n _ (by simpa using hk) hr w).mono ?_
    rintro e w' ⟨rfl, hb⟩
    exact ⟨_, rfl, .inl ⟨rfl, rfl⟩, hb⟩

end Go.Proofs.Ytbhkndblolegaaa
