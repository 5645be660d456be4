/- What isa86.heads tells. The walks of isa86's size, Right. -/
import Derived.Test.YtbhkndblolegaaaIh1
import Derived.Test.YtbhkndblolegaaaIh2
import Derived.Test.YtbhkndblolegaaaIe
namespace Go.Proofs.Ytbhkndblolegaaa
open Go.RowKit
set_option linter.unusedVariables false
set_option linter.unusedSimpArgs false

theorem heads_any (op d s : Int) (w : World) : Calls Try.prog 42 #[.int .i64 op, .int .i64 d, .int .i64 s] w (HeadIs w (headsL op d s)) := by
  by_cases p : op < 1
  · exact heads_a op d s p w
  by_cases hs : s = 0
  · subst hs
    by_cases p1 : op = 1
    · subst p1; exact heads_c1 d w
    by_cases p2 : op = 17
    · subst p2; exact heads_c17 d w
    by_cases p4 : 10 ≤ op ∧ op ≤ 19
    · exact heads_e op d p4.1 p4.2 p2 (by omega) (by simp; omega) (by simp; omega) w
    by_cases p29 : 2 ≤ op ∧ op ≤ 9
    · by_cases z : d = 0
      · subst z; exact heads_r2z op p29.1 p29.2 (by simp; omega) (by simp; omega) (by omega) (by omega) (by omega) (by omega) (by omega) (by omega) (by omega) (by omega) (by omega) (by omega) (by omega) (by omega) (by omega) w
      by_cases t : d = 20
      · subst t; exact heads_r2t op p29.1 p29.2 (by simp; omega) (by simp; omega) (by omega) (by omega) (by omega) (by omega) (by omega) (by omega) (by omega) (by omega) (by omega) (by omega) (by omega) (by omega) (by omega) w
      exact heads_r2x op d p29.1 p29.2 z t (by simp; omega) (by simp; omega) (by omega) (by omega) (by omega) (by omega) (by omega) (by omega) (by omega) (by omega) (by omega) (by omega) (by omega) (by omega) (by omega) w
    by_cases p39 : 30 ≤ op ∧ op ≤ 31
    · by_cases z : d = 0
      · subst z; exact heads_r3z op p39.1 p39.2 (by simp; omega) (by simp; omega) (by omega) (by omega) (by omega) (by omega) (by omega) (by omega) (by omega) (by omega) (by omega) (by omega) (by omega) (by omega) (by omega) w
      by_cases t : d = 20
      · subst t; exact heads_r3t op p39.1 p39.2 (by simp; omega) (by simp; omega) (by omega) (by omega) (by omega) (by omega) (by omega) (by omega) (by omega) (by omega) (by omega) (by omega) (by omega) (by omega) (by omega) w
      exact heads_r3x op d p39.1 p39.2 z t (by simp; omega) (by simp; omega) (by omega) (by omega) (by omega) (by omega) (by omega) (by omega) (by omega) (by omega) (by omega) (by omega) (by omega) (by omega) (by omega) w
    by_cases p49 : 36 ≤ op ∧ op ≤ 41
    · by_cases z : d = 0
      · subst z; exact heads_r4z op p49.1 p49.2 (by simp; omega) (by simp; omega) (by omega) (by omega) (by omega) (by omega) (by omega) (by omega) (by omega) (by omega) (by omega) (by omega) (by omega) (by omega) (by omega) w
      by_cases t : d = 20
      · subst t; exact heads_r4t op p49.1 p49.2 (by simp; omega) (by simp; omega) (by omega) (by omega) (by omega) (by omega) (by omega) (by omega) (by omega) (by omega) (by omega) (by omega) (by omega) (by omega) (by omega) w
      exact heads_r4x op d p49.1 p49.2 z t (by simp; omega) (by simp; omega) (by omega) (by omega) (by omega) (by omega) (by omega) (by omega) (by omega) (by omega) (by omega) (by omega) (by omega) (by omega) (by omega) w
    by_cases p46 : op = 46
    · subst p46
      by_cases z : d = 0
      · subst z; exact heads_46z w
      by_cases t : d = 20
      · subst t; exact heads_46t w
      exact heads_46x d z t w
    by_cases p47 : op = 47
    · subst p47
      by_cases z : d = 0
      · subst z; exact heads_47z w
      by_cases t : d = 20
      · subst t; exact heads_47t w
      exact heads_47x d z t w
    by_cases p69 : 52 ≤ op
    · by_cases z : d = 0
      · subst z; exact heads_r6z op p69 (by simp; omega) (by simp; omega) (by omega) (by omega) (by omega) (by omega) (by omega) (by omega) (by omega) (by omega) (by omega) (by omega) (by omega) (by omega) (by omega) w
      by_cases t : d = 20
      · subst t; exact heads_r6t op p69 (by simp; omega) (by simp; omega) (by omega) (by omega) (by omega) (by omega) (by omega) (by omega) (by omega) (by omega) (by omega) (by omega) (by omega) (by omega) (by omega) w
      exact heads_r6x op d p69 z t (by simp; omega) (by simp; omega) (by omega) (by omega) (by omega) (by omega) (by omega) (by omega) (by omega) (by omega) (by omega) (by omega) (by omega) (by omega) (by omega) w
    exact heads_lit op d (by omega) w
  · exact heads_b op d s (by omega) hs w

end Go.Proofs.Ytbhkndblolegaaa

namespace Go.Proofs.Ytbhkndblolegaaa
open Go.RowKit
set_option linter.unusedVariables false
set_option linter.unusedSimpArgs false

def tailN (t : Int) : Int := if t = 1 ∨ t = 3 then 1 else if t = 2 then 2 else 0

theorem size_1 (p : Option Addr) (n c : Nat) (hn : n ≤ 1000) (w : World) :
    Calls Try.prog 44 #[.agg #[.slice p n c, .int .i64 1]] w fun e w' => e = .returned (.int .i64 ((n : Int) + 1)) ∧ Below w.heap.size w w' := by
  go_enter Try.func44, Try.ntmps44
  go_wp2
  go_ret
  exact ⟨rfl, balloc (Below.refl _ _) _⟩
theorem size_3 (p : Option Addr) (n c : Nat) (hn : n ≤ 1000) (w : World) :
    Calls Try.prog 44 #[.agg #[.slice p n c, .int .i64 3]] w fun e w' => e = .returned (.int .i64 ((n : Int) + 1)) ∧ Below w.heap.size w w' := by
  go_enter Try.func44, Try.ntmps44
  go_wp2
  go_ret
  exact ⟨rfl, balloc (Below.refl _ _) _⟩
theorem size_2 (p : Option Addr) (n c : Nat) (hn : n ≤ 1000) (w : World) :
    Calls Try.prog 44 #[.agg #[.slice p n c, .int .i64 2]] w fun e w' => e = .returned (.int .i64 ((n : Int) + 2)) ∧ Below w.heap.size w w' := by
  go_enter Try.func44, Try.ntmps44
  go_wp2
  go_ret
  exact ⟨rfl, balloc (Below.refl _ _) _⟩
theorem size_0 (p : Option Addr) (n c : Nat) (hn : n ≤ 1000) (w : World) :
    Calls Try.prog 44 #[.agg #[.slice p n c, .int .i64 0]] w fun e w' => e = .returned (.int .i64 ((n : Int) + 0)) ∧ Below w.heap.size w w' := by
  go_enter Try.func44, Try.ntmps44
  go_wp2
  go_ret
  exact ⟨by rw [Int.add_zero]; rfl, balloc (Below.refl _ _) _⟩
theorem size_any (p : Option Addr) (n c : Nat) (t : Int) (hn : n ≤ 1000) (ht : t = 0 ∨ t = 1 ∨ t = 2 ∨ t = 3) (w : World) :
    Calls Try.prog 44 #[.agg #[.slice p n c, .int .i64 t]] w fun e w' => e = .returned (.int .i64 ((n : Int) + tailN t)) ∧ Below w.heap.size w w' := by
  rcases ht with rfl | rfl | rfl | rfl
  · exact size_0 p n c hn w
  · exact size_1 p n c hn w
  · exact size_2 p n c hn w
  · exact size_3 p n c hn w

/-- A number that is a byte with its sign, in two bytes. -/
def nearN (n : Int) : Int := if n % 256 < 128 then n % 256 else n % 256 + 65280
def rightL (h : List Int × Int) (n : Int) : Int :=
  if h.1 = [] then 12 else if (h.2 = 0 ∧ ¬ n = 0) ∨ (h.2 = 1 ∧ 255 < n) ∨ (h.2 = 3 ∧ ¬ nearN n = n) then 5 else 0

theorem own4 {w : World} {g : Nat} {a b c d : Value} {t : TypeId} (h : Own w g #[a, b, c, d] t) :
    w.cell? ⟨g, 0, none⟩ = some a ∧ w.cell? ⟨g, 1, none⟩ = some b ∧ w.cell? ⟨g, 2, none⟩ = some c ∧ w.cell? ⟨g, 3, none⟩ = some d :=
  ⟨h.cell 0, h.cell 1, h.cell 2, h.cell 3⟩

set_option maxHeartbeats 400000 in
theorem right_nil (op d s n t : Int) (hh : ∀ w, Calls Try.prog 42 #[.int .i64 op, .int .i64 d, .int .i64 s] w (HeadIs w ([], t))) (w : World) :
    Calls Try.prog 45 #[.agg #[.int .i64 op, .int .i64 d, .int .i64 s, .int .u16 n]] w fun e w' => e = .returned (.int .i64 12) ∧ Below w.heap.size w w' := by
  have o := own_new w #[.int .i64 op, .int .i64 d, .int .i64 s, .int .u16 n] 52
  go_enter Try.func45, Try.ntmps45
  go_wp2_with (first
    | (go_at_call 42; refine (hh _).mono ?_; rintro e w1 ⟨sl, rfl, hsl, hb⟩; have k := own4 (o.below hb); have hz : w.heap.size < w1.heap.size := Nat.lt_of_lt_of_le o.lt hb.size; obtain rfl : sl = .slice none 0 0 := by (rcases hsl with ⟨he, h⟩ | ⟨he, _⟩; exact h; exact absurd rfl he)))
  go_ret
  exact ⟨rfl, by repeat (first | with_reducible exact Below.refl _ _ | with_reducible apply bdrew | with_reducible apply balloc | (with_reducible apply bset; focus (first | (simp; done) | (simp; omega))) | (with_reducible apply bthen; focus (with_reducible assumption)))⟩

theorem isb_some {w : World} {B : Nat} {v : Value} {bs : List Int} {t : Int} (h : IsB w B v (bs, t).1) (hbs : ¬ bs = []) : ∃ g L, v = .slice (some ⟨g, 0, none⟩) L L ∧ ¬ (L : Int) = 0 := by
  rcases h with ⟨he, _⟩ | ⟨_, g, _, rfl, _⟩
  · exact absurd he hbs
  · exact ⟨g, bs.length, rfl, by cases bs with | nil => exact absurd rfl hbs | cons _ _ => simp; omega⟩

set_option maxRecDepth 100000 in
set_option maxHeartbeats 400000 in
theorem right_0z (op d s : Int) (bs : List Int) (hbs : ¬ bs = []) (hh : ∀ w, Calls Try.prog 42 #[.int .i64 op, .int .i64 d, .int .i64 s] w (HeadIs w (bs, 0)))  (w : World) :
    Calls Try.prog 45 #[.agg #[.int .i64 op, .int .i64 d, .int .i64 s, .int .u16 0]] w fun e w' => e = .returned (.int .i64 0) ∧ Below w.heap.size w w' := by
  have o := own_new w #[.int .i64 op, .int .i64 d, .int .i64 s, .int .u16 0] 52
  go_enter Try.func45, Try.ntmps45
  go_wp2_with (first
    | (go_at_call 42; refine (hh _).mono ?_; rintro e w1 ⟨sl, rfl, hsl, hb⟩; have k := own4 (o.below hb); have hz : w.heap.size < w1.heap.size := Nat.lt_of_lt_of_le o.lt hb.size; obtain ⟨g, L, rfl, hL⟩ := isb_some hsl hbs))
  go_ret
  exact ⟨rfl, by repeat (first | with_reducible exact Below.refl _ _ | with_reducible apply bdrew | with_reducible apply balloc | (with_reducible apply bset; focus (first | (simp; done) | (simp; omega))) | (with_reducible apply bthen; focus (with_reducible assumption)))⟩

set_option maxRecDepth 100000 in
set_option maxHeartbeats 400000 in
theorem right_0n (op d s n : Int) (bs : List Int) (hbs : ¬ bs = []) (hh : ∀ w, Calls Try.prog 42 #[.int .i64 op, .int .i64 d, .int .i64 s] w (HeadIs w (bs, 0))) (hn : ¬ n = 0) (hn' : (n != 0) = true) (w : World) :
    Calls Try.prog 45 #[.agg #[.int .i64 op, .int .i64 d, .int .i64 s, .int .u16 n]] w fun e w' => e = .returned (.int .i64 5) ∧ Below w.heap.size w w' := by
  have o := own_new w #[.int .i64 op, .int .i64 d, .int .i64 s, .int .u16 n] 52
  go_enter Try.func45, Try.ntmps45
  go_wp2_with (first
    | (go_at_call 42; refine (hh _).mono ?_; rintro e w1 ⟨sl, rfl, hsl, hb⟩; have k := own4 (o.below hb); have hz : w.heap.size < w1.heap.size := Nat.lt_of_lt_of_le o.lt hb.size; obtain ⟨g, L, rfl, hL⟩ := isb_some hsl hbs))
  go_ret
  exact ⟨rfl, by repeat (first | with_reducible exact Below.refl _ _ | with_reducible apply bdrew | with_reducible apply balloc | (with_reducible apply bset; focus (first | (simp; done) | (simp; omega))) | (with_reducible apply bthen; focus (with_reducible assumption)))⟩

set_option maxRecDepth 100000 in
set_option maxHeartbeats 400000 in
theorem right_1y (op d s n : Int) (bs : List Int) (hbs : ¬ bs = []) (hh : ∀ w, Calls Try.prog 42 #[.int .i64 op, .int .i64 d, .int .i64 s] w (HeadIs w (bs, 1))) (hn : ¬ 255 < n) (w : World) :
    Calls Try.prog 45 #[.agg #[.int .i64 op, .int .i64 d, .int .i64 s, .int .u16 n]] w fun e w' => e = .returned (.int .i64 0) ∧ Below w.heap.size w w' := by
  have o := own_new w #[.int .i64 op, .int .i64 d, .int .i64 s, .int .u16 n] 52
  go_enter Try.func45, Try.ntmps45
  go_wp2_with (first
    | (go_at_call 42; refine (hh _).mono ?_; rintro e w1 ⟨sl, rfl, hsl, hb⟩; have k := own4 (o.below hb); have hz : w.heap.size < w1.heap.size := Nat.lt_of_lt_of_le o.lt hb.size; obtain ⟨g, L, rfl, hL⟩ := isb_some hsl hbs))
  go_ret
  exact ⟨rfl, by repeat (first | with_reducible exact Below.refl _ _ | with_reducible apply bdrew | with_reducible apply balloc | (with_reducible apply bset; focus (first | (simp; done) | (simp; omega))) | (with_reducible apply bthen; focus (with_reducible assumption)))⟩

set_option maxRecDepth 100000 in
set_option maxHeartbeats 400000 in
theorem right_1n (op d s n : Int) (bs : List Int) (hbs : ¬ bs = []) (hh : ∀ w, Calls Try.prog 42 #[.int .i64 op, .int .i64 d, .int .i64 s] w (HeadIs w (bs, 1))) (hn : 255 < n) (w : World) :
    Calls Try.prog 45 #[.agg #[.int .i64 op, .int .i64 d, .int .i64 s, .int .u16 n]] w fun e w' => e = .returned (.int .i64 5) ∧ Below w.heap.size w w' := by
  have o := own_new w #[.int .i64 op, .int .i64 d, .int .i64 s, .int .u16 n] 52
  go_enter Try.func45, Try.ntmps45
  go_wp2_with (first
    | (go_at_call 42; refine (hh _).mono ?_; rintro e w1 ⟨sl, rfl, hsl, hb⟩; have k := own4 (o.below hb); have hz : w.heap.size < w1.heap.size := Nat.lt_of_lt_of_le o.lt hb.size; obtain ⟨g, L, rfl, hL⟩ := isb_some hsl hbs))
  go_ret
  exact ⟨rfl, by repeat (first | with_reducible exact Below.refl _ _ | with_reducible apply bdrew | with_reducible apply balloc | (with_reducible apply bset; focus (first | (simp; done) | (simp; omega))) | (with_reducible apply bthen; focus (with_reducible assumption)))⟩

set_option maxRecDepth 100000 in
set_option maxHeartbeats 400000 in
theorem right_2 (op d s n : Int) (bs : List Int) (hbs : ¬ bs = []) (hh : ∀ w, Calls Try.prog 42 #[.int .i64 op, .int .i64 d, .int .i64 s] w (HeadIs w (bs, 2)))  (w : World) :
    Calls Try.prog 45 #[.agg #[.int .i64 op, .int .i64 d, .int .i64 s, .int .u16 n]] w fun e w' => e = .returned (.int .i64 0) ∧ Below w.heap.size w w' := by
  have o := own_new w #[.int .i64 op, .int .i64 d, .int .i64 s, .int .u16 n] 52
  go_enter Try.func45, Try.ntmps45
  go_wp2_with (first
    | (go_at_call 42; refine (hh _).mono ?_; rintro e w1 ⟨sl, rfl, hsl, hb⟩; have k := own4 (o.below hb); have hz : w.heap.size < w1.heap.size := Nat.lt_of_lt_of_le o.lt hb.size; obtain ⟨g, L, rfl, hL⟩ := isb_some hsl hbs))
  go_ret
  exact ⟨rfl, by repeat (first | with_reducible exact Below.refl _ _ | with_reducible apply bdrew | with_reducible apply balloc | (with_reducible apply bset; focus (first | (simp; done) | (simp; omega))) | (with_reducible apply bthen; focus (with_reducible assumption)))⟩

set_option maxRecDepth 100000 in
set_option maxHeartbeats 400000 in
theorem right_3n (op d s n : Int) (bs : List Int) (hbs : ¬ bs = []) (hh : ∀ w, Calls Try.prog 42 #[.int .i64 op, .int .i64 d, .int .i64 s] w (HeadIs w (bs, 3))) (hv : (IntKind.u16.wrap (IntKind.i8.wrap n) != n) = true) (w : World) :
    Calls Try.prog 45 #[.agg #[.int .i64 op, .int .i64 d, .int .i64 s, .int .u16 n]] w fun e w' => e = .returned (.int .i64 5) ∧ Below w.heap.size w w' := by
  have o := own_new w #[.int .i64 op, .int .i64 d, .int .i64 s, .int .u16 n] 52
  go_enter Try.func45, Try.ntmps45
  go_wp2_with (first
    | (go_at_call 42; refine (hh _).mono ?_; rintro e w1 ⟨sl, rfl, hsl, hb⟩; have k := own4 (o.below hb); have hz : w.heap.size < w1.heap.size := Nat.lt_of_lt_of_le o.lt hb.size; obtain ⟨g, L, rfl, hL⟩ := isb_some hsl hbs))
  go_ret
  exact ⟨rfl, by repeat (first | with_reducible exact Below.refl _ _ | with_reducible apply bdrew | with_reducible apply balloc | (with_reducible apply bset; focus (first | (simp; done) | (simp; omega))) | (with_reducible apply bthen; focus (with_reducible assumption)))⟩

set_option maxRecDepth 100000 in
set_option maxHeartbeats 400000 in
theorem right_3y (op d s n : Int) (bs : List Int) (hbs : ¬ bs = []) (hh : ∀ w, Calls Try.prog 42 #[.int .i64 op, .int .i64 d, .int .i64 s] w (HeadIs w (bs, 3))) (hv : (IntKind.u16.wrap (IntKind.i8.wrap n) != n) = false) (w : World) :
    Calls Try.prog 45 #[.agg #[.int .i64 op, .int .i64 d, .int .i64 s, .int .u16 n]] w fun e w' => e = .returned (.int .i64 0) ∧ Below w.heap.size w w' := by
  have o := own_new w #[.int .i64 op, .int .i64 d, .int .i64 s, .int .u16 n] 52
  go_enter Try.func45, Try.ntmps45
  go_wp2_with (first
    | (go_at_call 42; refine (hh _).mono ?_; rintro e w1 ⟨sl, rfl, hsl, hb⟩; have k := own4 (o.below hb); have hz : w.heap.size < w1.heap.size := Nat.lt_of_lt_of_le o.lt hb.size; obtain ⟨g, L, rfl, hL⟩ := isb_some hsl hbs))
  go_ret
  exact ⟨rfl, by repeat (first | with_reducible exact Below.refl _ _ | with_reducible apply bdrew | with_reducible apply balloc | (with_reducible apply bset; focus (first | (simp; done) | (simp; omega))) | (with_reducible apply bthen; focus (with_reducible assumption)))⟩

theorem near_wrap (n : Int) : IntKind.u16.wrap (IntKind.i8.wrap n) = nearN n := by
  simp only [IntKind.wrap, IntKind.bits, IntKind.signed, nearN]
  simp
  split <;> split <;> omega

theorem right_class (op d s n : Int) (bs : List Int) (t : Int) (ht : t = 0 ∨ t = 1 ∨ t = 2 ∨ t = 3) (hh : ∀ w, Calls Try.prog 42 #[.int .i64 op, .int .i64 d, .int .i64 s] w (HeadIs w (bs, t))) (w : World) :
    Calls Try.prog 45 #[.agg #[.int .i64 op, .int .i64 d, .int .i64 s, .int .u16 n]] w fun e w' => e = .returned (.int .i64 (rightL (bs, t) n)) ∧ Below w.heap.size w w' := by
  by_cases hbs : bs = []
  · subst hbs
    exact right_nil op d s n t hh w
  rcases ht with rfl | rfl | rfl | rfl
  · by_cases hn : n = 0
    · subst hn
      have e : rightL (bs, 0) 0 = 0 := by simp [rightL, hbs]
      rw [e]; exact right_0z op d s bs hbs hh w
    · have e : rightL (bs, 0) n = 5 := by simp [rightL, hbs, hn]
      rw [e]; exact right_0n op d s n bs hbs hh hn (by simpa using hn) w
  · by_cases hn : 255 < n
    · have e : rightL (bs, 1) n = 5 := by simp [rightL, hbs, hn]
      rw [e]; exact right_1n op d s n bs hbs hh hn w
    · have e : rightL (bs, 1) n = 0 := by simp [rightL, hbs, hn]
      rw [e]; exact right_1y op d s n bs hbs hh hn w
  · have e : rightL (bs, 2) n = 0 := by simp [rightL, hbs]
    rw [e]; exact right_2 op d s n bs hbs hh w
  · by_cases hn : nearN n = n
    · have e : rightL (bs, 3) n = 0 := by simp [rightL, hbs, hn]
      rw [e]; exact right_3y op d s n bs hbs hh (by rw [near_wrap, hn]; simp) w
    · have e : rightL (bs, 3) n = 5 := by simp [rightL, hbs, hn]
      rw [e]; exact right_3n op d s n bs hbs hh (by rw [near_wrap]; simpa using hn) w

theorem places_tail (d s : Int) : ((placesL d s).2 = 0 ∨ (placesL d s).2 = 1 ∨ (placesL d s).2 = 2 ∨ (placesL d s).2 = 3) ∧ (placesL d s).1.length ≤ 2 := by
  unfold placesL
  repeat' split
  all_goals simp
theorem two_tail (op d s : Int) : ((twoL op d s).2 = 0 ∨ (twoL op d s).2 = 1 ∨ (twoL op d s).2 = 2 ∨ (twoL op d s).2 = 3) ∧ (twoL op d s).1.length ≤ 2 := by
  unfold twoL
  repeat' split
  all_goals first | exact places_tail d s | simp
theorem one_tail (op d : Int) : ((oneL op d).2 = 0 ∨ (oneL op d).2 = 1 ∨ (oneL op d).2 = 2 ∨ (oneL op d).2 = 3) ∧ (oneL op d).1.length ≤ 2 := by
  unfold oneL
  repeat' split
  all_goals simp
theorem heads_tail (op d s : Int) : ((headsL op d s).2 = 0 ∨ (headsL op d s).2 = 1 ∨ (headsL op d s).2 = 2 ∨ (headsL op d s).2 = 3) ∧ (headsL op d s).1.length ≤ 2 := by
  unfold headsL
  repeat' split
  all_goals first | exact two_tail op d s | exact one_tail op d | simp

theorem right_any (op d s n : Int) (w : World) :
    Calls Try.prog 45 #[.agg #[.int .i64 op, .int .i64 d, .int .i64 s, .int .u16 n]] w fun e w' => e = .returned (.int .i64 (rightL (headsL op d s) n)) ∧ Below w.heap.size w w' :=
  right_class op d s n (headsL op d s).1 (headsL op d s).2 (heads_tail op d s).1 (fun w => heads_any op d s w) w

end Go.Proofs.Ytbhkndblolegaaa
