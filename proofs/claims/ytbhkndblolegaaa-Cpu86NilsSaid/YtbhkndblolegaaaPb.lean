/- Two bytes as a word. A byte of a word cleared, and a byte laid beside another. -/
import Derived.Test.YtbhkndblolegaaaPa
namespace Go.Proofs.Ytbhkndblolegaaa

theorem or16 (x y : Int) (hx : 0 ≤ x) (hx1 : x ≤ 255) (hy : 0 ≤ y) (hy1 : y ≤ 255) : bits BinOp.or IntKind.u16 x (y * 256) = x + y * 256 := by
  have h : ∀ a b : Fin 256, bits BinOp.or IntKind.u16 ((a.val : Int)) ((b.val : Int) * 256) = (a.val : Int) + (b.val : Int) * 256 := by decide +kernel
  have g := h ⟨x.toNat, by omega⟩ ⟨y.toNat, by omega⟩
  have e1 : ((x.toNat : Nat) : Int) = x := by omega
  have e2 : ((y.toNat : Nat) : Int) = y := by omega
  simp only [e1, e2] at g
  exact g

end Go.Proofs.Ytbhkndblolegaaa

namespace Go.Proofs.Ytbhkndblolegaaa

set_option maxHeartbeats 4000000 in
theorem word_split (v : Int) (h0 : 0 ≤ v) (h1 : v ≤ 65535) : bits BinOp.andNot IntKind.u16 v 255 = v / 256 * 256 ∧ bits BinOp.andNot IntKind.u16 v 65280 = v % 256 := by
  have h : ∀ a b : Fin 256, bits BinOp.andNot IntKind.u16 ((a.val : Int) * 256 + (b.val : Int)) 255 = (a.val : Int) * 256 ∧ bits BinOp.andNot IntKind.u16 ((a.val : Int) * 256 + (b.val : Int)) 65280 = (b.val : Int) := by decide +kernel
  have g := h ⟨(v / 256).toNat, by omega⟩ ⟨(v % 256).toNat, by omega⟩
  have e1 : (((v / 256).toNat : Nat) : Int) = v / 256 := by omega
  have e2 : (((v % 256).toNat : Nat) : Int) = v % 256 := by omega
  have e3 : v / 256 * 256 + v % 256 = v := by omega
  simp only [e1, e2, e3] at g
  exact g
set_option maxHeartbeats 4000000 in
theorem word_or (x y : Int) (hx : 0 ≤ x) (hx1 : x ≤ 255) (hy : 0 ≤ y) (hy1 : y ≤ 255) : bits BinOp.or IntKind.u16 (y * 256) x = y * 256 + x := by
  have h : ∀ a b : Fin 256, bits BinOp.or IntKind.u16 ((b.val : Int) * 256) ((a.val : Int)) = (b.val : Int) * 256 + (a.val : Int) := by decide +kernel
  have g := h ⟨x.toNat, by omega⟩ ⟨y.toNat, by omega⟩
  have e1 : ((x.toNat : Nat) : Int) = x := by omega
  have e2 : ((y.toNat : Nat) : Int) = y := by omega
  simp only [e1, e2] at g
  exact g

end Go.Proofs.Ytbhkndblolegaaa
