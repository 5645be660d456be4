/- New of other sizes; Low of other numbers; the document's Low. -/
import Derived.Test.YtbhkndblolegaaaDo
import Derived.Test.YtbhkndblolegaaaEj
namespace Go.Proofs.Ytbhkndblolegaaa
open Go.RowKit
set_option linter.unusedVariables false
set_option linter.unusedSimpArgs false

set_option maxRecDepth 100000 in
set_option maxHeartbeats 2000000 in
/-- Another size of memory, or too long an input: none. -/
theorem new_not (r : Rg) (p : Option Addr) (n cap : Nat) (pc pd : Option Addr) (c cc d dd : Nat) (w : World) (h : ¬ ((c : Int) = 65536 ∧ (d : Int) = 65536 ∧ (n : Int) ≤ 256)) :
    Calls Try.prog 30 #[.agg (cellsS r (.slice p n cap) (.slice none 0 0)), .slice pc c cc, .slice pd d dd] w fun e w' => e = .returned (.tuple #[.pointer none, .int .i64 1]) ∧ Below w.heap.size w w' := by
  have h' : ((c : Int) != 65536) = true ∨ (((c : Int) != 65536) = false ∧ ((d : Int) != 65536) = true) ∨ (((c : Int) != 65536) = false ∧ ((d : Int) != 65536) = false ∧ (256 : Int) < n) := by
    simp only [bne_iff_ne, ne_eq, bne_eq_false_iff_eq]
    omega
  clear h
  rcases h' with h | ⟨h1, h2⟩ | ⟨h1, h2, h3⟩
  all_goals
    unfold cellsS
    go_enter Try.func30, Try.ntmps30
    go_wp2
    go_ret2
    exact ⟨rfl, balloc (Below.refl _ _) _⟩
theorem Low_out (g : Nat) (i : Int) (h : i < 0 ∨ 7 < i) (w : World) : Calls Try.prog 20 #[at0 g, .int .i64 i] w fun e w' => e = .returned (.int .u8 0) ∧ w' = w := by
  rcases h with h | h
  all_goals
    go_enter Try.func20, Try.ntmps20
    go_wp2
    go_ret
    exact ⟨rfl, rfl⟩
/-- The document's byte registers: a machine whose registers lie in a row. -/
theorem rLow_out (ra : Nat) (i : Int) (h : i < 0 ∨ 7 < i) (w : World) : Calls Try.prog 31 #[at0 ra, .int .i64 i] w fun e w' => e = .returned (.int .u8 0) ∧ w' = w := by
  rcases h with h | h
  all_goals
    go_enter Try.func31, Try.ntmps31
    go_wp2
    go_ret
    exact ⟨rfl, rfl⟩
set_option maxRecDepth 100000 in
theorem rLow_any (ra gr capr : Nat) (r : Rg) (hr : r.Ok) (i : Int) (h0 : 0 ≤ i) (h1 : i ≤ 7) (w : World) (hm : w.cell? ⟨ra, 0, none⟩ = some (.slice (some ⟨gr, 0, none⟩) 8 capr)) (hc : (8 : Int) ≤ capr) (hrg : ∀ i, i < 8 → w.cell? ⟨gr, i, none⟩ = some (.int .u16 (r.R i))) :
    Calls Try.prog 31 #[at0 ra, .int .i64 i] w fun e w' => e = .returned (.int .u8 (lowL r i.toNat)) ∧ w' = w := by
  have c0 := hrg 0 (by decide)
  have c1 := hrg 1 (by decide)
  have c2 := hrg 2 (by decide)
  have c3 := hrg 3 (by decide)
  have l0 := hr.lo 0
  have l1 := hr.lo 1
  have l2 := hr.lo 2
  have l3 := hr.lo 3
  have h0' := hr.hi 0
  have h1' := hr.hi 1
  have h2' := hr.hi 2
  have h3' := hr.hi 3
  have hand : ∀ n : Int, 0 ≤ n → n ≤ 65535 → bits BinOp.and IntKind.u16 n 255 = n % 256 := by
    intro n n0 n1
    rw [u16_and n 255 n0 n1 (by decide) (by decide)]
    unfold andL
    have e := Nat.and_two_pow_sub_one_eq_mod n.toNat 8
    have : n.toNat &&& 255 = n.toNat % 256 := e
    rw [show ((255 : Int).toNat) = 255 from rfl, this]
    omega
  have a0 := hand _ l0 h0'
  have a1 := hand _ l1 h1'
  have a2 := hand _ l2 h2'
  have a3 := hand _ l3 h3'
  clear hand hrg
  have hi : i = 0 ∨ i = 1 ∨ i = 2 ∨ i = 3 ∨ i = 4 ∨ i = 5 ∨ i = 6 ∨ i = 7 := by omega
  rcases hi with rfl | rfl | rfl | rfl | rfl | rfl | rfl | rfl <;> clear h0 h1
  all_goals
    go_enter Try.func31, Try.ntmps31
    go_wp2
    go_ret
    exact ⟨rfl, rfl⟩

end Go.Proofs.Ytbhkndblolegaaa
