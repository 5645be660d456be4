/- Two bytes as a word. -/
import Derived.Test.YtbhkndblolegaaaIs
namespace Go.Proofs.Ytbhkndblolegaaa

theorem or16 (x y : Int) (hx : 0 ≤ x) (hx1 : x ≤ 255) (hy : 0 ≤ y) (hy1 : y ≤ 255) : bits BinOp.or IntKind.u16 x (y * 256) = x + y * 256 := by
  have h : ∀ a b : Fin 256, bits BinOp.or IntKind.u16 ((a.val : Int)) ((b.val : Int) * 256) = (a.val : Int) + (b.val : Int) * 256 := by decide +kernel
  have g := h ⟨x.toNat, by omega⟩ ⟨y.toNat, by omega⟩
  have e1 : ((x.toNat : Nat) : Int) = x := by omega
  have e2 : ((y.toNat : Nat) : Int) = y := by omega
  simp only [e1, e2] at g
  exact g

end Go.Proofs.Ytbhkndblolegaaa
