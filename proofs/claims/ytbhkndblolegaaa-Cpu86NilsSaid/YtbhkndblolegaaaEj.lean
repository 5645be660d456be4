/- The document's bytes of jumps by a condition; Light. -/
import Derived.Test.YtbhkndblolegaaaEg
import Derived.Test.YtbhkndblolegaaaIap
import Derived.Laws.AppendOwn
import Derived.Deep.AppendLies
namespace Go.Proofs.Ytbhkndblolegaaa
open Go.RowKit
set_option linter.unusedVariables false
set_option linter.unusedSimpArgs false

theorem cond_yes (op : Int) (h : (42 ≤ op ∧ op ≤ 45) ∨ (48 ≤ op ∧ op ≤ 51)) (w : World) : Calls Try.prog 27 #[.int .i64 op] w fun e w' => e = .returned (.bool true) ∧ w' = w := by
  rcases h with ⟨h1, h2⟩ | ⟨h1, h2⟩
  · go_enter Try.func27, Try.ntmps27
    go_wp2
    go_ret
    exact ⟨rfl, rfl⟩
  · have h3 : ¬ op ≤ 45 := by omega
    go_enter Try.func27, Try.ntmps27
    go_wp2
    go_ret
    exact ⟨rfl, rfl⟩
theorem cond_not (op : Int) (h : op < 42 ∨ op = 46 ∨ op = 47 ∨ 51 < op) (w : World) : Calls Try.prog 27 #[.int .i64 op] w fun e w' => e = .returned (.bool false) ∧ w' = w := by
  rcases h with h | rfl | rfl | h
  all_goals
    go_enter Try.func27, Try.ntmps27
    go_wp2
    go_ret
    exact ⟨by first | rfl | (simp; done) | (simp; omega), rfl⟩

theorem light_yes (r : Rg) (pi pc pd : Option Addr) (ni nc nd ci cc cd : Nat) (h1 : (ni : Int) ≤ 300) (h2 : (nc : Int) ≤ 600) (h3 : (nd : Int) ≤ 300) (w : World) :
    Calls Try.prog 14 #[.agg (cellsT r (.slice pi ni ci) (.slice pc nc cc) (.slice pd nd cd))] w fun e w' => e = .returned (.bool true) ∧ Below w.heap.size w w' := by
  unfold cellsT
  go_enter Try.func14, Try.ntmps14
  go_wp2
  go_ret
  exact ⟨rfl, balloc (Below.refl _ _) _⟩
theorem light_not (r : Rg) (pi pc pd : Option Addr) (ni nc nd ci cc cd : Nat) (h : ¬ ((ni : Int) ≤ 300 ∧ (nc : Int) ≤ 600 ∧ (nd : Int) ≤ 300)) (w : World) :
    Calls Try.prog 14 #[.agg (cellsT r (.slice pi ni ci) (.slice pc nc cc) (.slice pd nd cd))] w fun e w' => e = .returned (.bool false) ∧ Below w.heap.size w w' := by
  have h' : (300 : Int) < ni ∨ ((ni : Int) ≤ 300 ∧ (600 : Int) < nc) ∨ ((ni : Int) ≤ 300 ∧ (nc : Int) ≤ 600 ∧ (300 : Int) < nd) := by omega
  clear h
  rcases h' with h | ⟨h0, h⟩ | ⟨h0, h1, h⟩
  all_goals
    unfold cellsT
    go_enter Try.func14, Try.ntmps14
    go_wp2
    go_ret
    exact ⟨by first | rfl | (simp; done) | (simp; omega), balloc (Below.refl _ _) _⟩

theorem own_new1 (w : World) (o : Obj) (cs : Array Value) (t : TypeId) : Own ((w.alloc o).alloc (.cells cs t)) (w.heap.size + 1) cs t := by
  have q := own_new (w.alloc o) cs t
  rw [World.size_alloc] at q
  exact q
theorem conds {op : Int} (h : (42 ≤ op ∧ op ≤ 45) ∨ (48 ≤ op ∧ op ≤ 51)) : op = 42 ∨ op = 43 ∨ op = 44 ∨ op = 45 ∨ op = 48 ∨ op = 49 ∨ op = 50 ∨ op = 51 := by omega
set_option maxRecDepth 100000 in
set_option maxHeartbeats 1000000 in
/-- The head of a jump by a condition. -/
theorem head_cond (op : Int) (h : (42 ≤ op ∧ op ≤ 45) ∨ (48 ≤ op ∧ op ≤ 51)) (w : World) :
    Calls Try.prog 51 #[.int .i64 op, .int .i64 20, .int .i64 0] w fun e w' => ∃ g, e = .returned (.tuple #[.slice (some ⟨g, 0, none⟩) 1 1, .int .i64 3]) ∧ w.heap.size ≤ g ∧ Own w' g #[.int .u8 (op + 72)] 5 ∧ Below w.heap.size w w' := by
  rcases conds h with rfl | rfl | rfl | rfl | rfl | rfl | rfl | rfl <;> clear h
  all_goals
    go_enter Try.func51, Try.ntmps51
    go_wp2_with (go_at_call 27; (with_reducible refine (cond_yes _ (by decide) _).mono ?_); rintro e w1 ⟨rfl, rfl⟩)
    go_ret2
    exact ⟨w.heap.size + 1, rfl, Nat.le_succ _, own_new1 w _ _ _, balloc (balloc (Below.refl _ _) _) _⟩

abbrev insJ (op n : Int) : Value := .agg #[.int .i64 op, .int .i64 20, .int .i64 0, .int .u16 n]
theorem ownJ {w : World} {g : Nat} {a b c d : Value} {t : TypeId} (h : Own w g #[a, b, c, d] t) : w.cell? ⟨g, 0, none⟩ = some a ∧ w.cell? ⟨g, 1, none⟩ = some b ∧ w.cell? ⟨g, 2, none⟩ = some c ∧ w.cell? ⟨g, 3, none⟩ = some d := ⟨h.cell 0, h.cell 1, h.cell 2, h.cell 3⟩
set_option maxRecDepth 100000 in
set_option maxHeartbeats 1000000 in
theorem rightJ_yes (op n : Int) (h : (42 ≤ op ∧ op ≤ 45) ∨ (48 ≤ op ∧ op ≤ 51)) (hn : n ≤ 127 ∨ 65408 ≤ n) (w : World) :
    Calls Try.prog 50 #[insJ op n] w fun e w' => e = .returned (.int .i64 0) ∧ Below w.heap.size w w' := by
  have o0 := own_new w #[.int .i64 op, .int .i64 20, .int .i64 0, .int .u16 n] 59
  have bW : Below w.heap.size w (w.alloc (.cells #[.int .i64 op, .int .i64 20, .int .i64 0, .int .u16 n] 59)) := balloc (Below.refl _ _) _
  have hH := head_cond op h
  rcases hn with hn | hn
  all_goals
    go_enter Try.func50, Try.ntmps50
    go_wp2_with (go_at_call 51; (with_reducible refine (hH _).mono ?_); rintro e w1 ⟨g, rfl, hg, ho, hb1⟩; obtain ⟨q0, q1, q2, q3⟩ := ownJ (o0.below hb1))
    go_ret
    exact ⟨rfl, bthen hb1 bW⟩
set_option maxRecDepth 100000 in
set_option maxHeartbeats 1000000 in
theorem rightJ_not (op n : Int) (h : (42 ≤ op ∧ op ≤ 45) ∨ (48 ≤ op ∧ op ≤ 51)) (h1 : 127 < n) (h2 : n < 65408) (w : World) :
    Calls Try.prog 50 #[insJ op n] w fun e w' => e = .returned (.int .i64 5) ∧ Below w.heap.size w w' := by
  have o0 := own_new w #[.int .i64 op, .int .i64 20, .int .i64 0, .int .u16 n] 59
  have bW : Below w.heap.size w (w.alloc (.cells #[.int .i64 op, .int .i64 20, .int .i64 0, .int .u16 n] 59)) := balloc (Below.refl _ _) _
  have hH := head_cond op h
  go_enter Try.func50, Try.ntmps50
  go_wp2_with (go_at_call 51; (with_reducible refine (hH _).mono ?_); rintro e w1 ⟨g, rfl, hg, ho, hb1⟩; obtain ⟨q0, q1, q2, q3⟩ := ownJ (o0.below hb1))
  go_ret
  exact ⟨rfl, bthen hb1 bW⟩
theorem bytesJ_not (op n : Int) (h : (42 ≤ op ∧ op ≤ 45) ∨ (48 ≤ op ∧ op ≤ 51)) (h1 : 127 < n) (h2 : n < 65408) (w : World) :
    Calls Try.prog 35 #[insJ op n] w fun e w' => e = .returned (.tuple #[.slice none 0 0, .int .i64 5]) ∧ Below w.heap.size w w' := by
  have bW : Below w.heap.size w (w.alloc (.cells #[.int .i64 op, .int .i64 20, .int .i64 0, .int .u16 n] 59)) := balloc (Below.refl _ _) _
  have hR := rightJ_not op n h h1 h2
  unfold insJ at hR ⊢
  go_enter Try.func35, Try.ntmps35
  go_wp2_with (go_at_call 50; (with_reducible refine (hR _).mono ?_); rintro e w1 ⟨rfl, hb1⟩)
  go_ret2
  exact ⟨rfl, bthen hb1 bW⟩
set_option maxRecDepth 100000 in
set_option maxHeartbeats 1000000 in
theorem bytesJ_yes (op n : Int) (h : (42 ≤ op ∧ op ≤ 45) ∨ (48 ≤ op ∧ op ≤ 51)) (n0 : 0 ≤ n) (n1 : n ≤ 65535) (hn : n ≤ 127 ∨ 65408 ≤ n) (w : World) :
    Calls Try.prog 35 #[insJ op n] w fun e w' => ∃ g cap, e = .returned (.tuple #[.slice (some ⟨g, 0, none⟩) 2 cap, .int .i64 0]) ∧ LiesB w' (.slice (some ⟨g, 0, none⟩) 2 cap) [op + 72, n % 256] ∧ Below w.heap.size w w' := by
  have o0 := own_new w #[.int .i64 op, .int .i64 20, .int .i64 0, .int .u16 n] 59
  have bW : Below w.heap.size w (w.alloc (.cells #[.int .i64 op, .int .i64 20, .int .i64 0, .int .u16 n] 59)) := balloc (Below.refl _ _) _
  have hR := rightJ_yes op n h hn
  have hH := head_cond op h
  unfold insJ at hR ⊢
  obtain ⟨iu, hiu, hu0, hu1, hu2⟩ := info_parts info_u8
  have ha : bits BinOp.and IntKind.u16 n 255 = n % 256 := by
    rw [u16_and n 255 n0 n1 (by decide) (by decide)]
    unfold andL
    have e := Nat.and_two_pow_sub_one_eq_mod n.toNat 8
    have : n.toNat &&& 255 = n.toNat % 256 := e
    rw [show ((255 : Int).toNat) = 255 from rfl, this]
    omega
  have hw8 : IntKind.u8.wrap (n % 256) = n % 256 := by simp [IntKind.wrap, IntKind.bits, IntKind.signed]
  go_enter Try.func35, Try.ntmps35
  go_wp2_with (first
    | (go_at_call 50; (with_reducible refine (hR _).mono ?_); rintro e w1 ⟨rfl, hb1⟩; obtain ⟨q0, q1, q2, q3⟩ := ownJ (o0.below hb1))
    | (go_at_call 51; (with_reducible refine (hH _).mono ?_); rintro e w2 ⟨g, rfl, hg, ho, hb2⟩; obtain ⟨u0, u1, u2, u3⟩ := ownJ ((o0.below hb1).below hb2); have hrow : w2.ownsRow w1.heap.size 5 1 (.slice (some ⟨g, 0, none⟩) 1 1) 1 [.int .u8 (op + 72)] := ⟨rfl, .inr ⟨g, 1, _, rfl, hg, ho, Nat.le_refl _, by decide, rfl, rfl⟩⟩; have bb2 := bthen hb2 (bthen hb1 bW); have lw := ho.lt)
    | (at_builtin; refine wpList_append_lies _ rfl _ _ 26 rfl w1.heap.size 5 iu (.int .u8 0) 1 1 Try.underlying26 hiu hu0 hu1 hu2 rfl (by decide) _ 1 _ rfl (hrow.alloc _) ⟨w2.heap.size, 0, none⟩ 1 1 [.int .u8 (n % 256)] rfl rfl (World.news_of_block (own_new w2 _ _)) (by intro u hu; simp at hu; subst hu; rfl) (by decide) (by decide) (by decide) (by have := hb2.size; simp; omega) _ rfl ?_; intro g5 cap5 w5 hown5 hgrow5 hat5 hlt5; have hb5 : Below w1.heap.size w1 w5 := (balloc hb2 _).grown hgrow5 (by have := hb2.size; simp; omega) (by intro q hq; exact (hrow.lt q hq).1)))
  go_ret2
  refine ⟨g5, cap5, rfl, liesB_own (bs := [op + 72, n % 256]) (fun j hj => ?_), bthen hb5 (bthen hb1 bW)⟩
  have hj' : j < 2 := hj
  rw [World.ownsRow.cellAt hown5 j (by omega)]
  have : j = 0 ∨ j = 1 := by omega
  rcases this with rfl | rfl <;> rfl

end Go.Proofs.Ytbhkndblolegaaa
