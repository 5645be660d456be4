/- A plain fact: the adjusted sum of two numbers of two decimal digits, by all cases. -/
import Derived.Test.YtpoaiojlaijoiaaSp
namespace Go.Proofs.Ytpoaiojlaijoiaa

theorem tens_all : ∀ a b : Fin 100,
    daaV (((a.val : Int) / 10 * 16 + (a.val : Int) % 10 + ((b.val : Int) / 10 * 16 + (b.val : Int) % 10) + cb false) % 256) (decide (15 < (a.val : Int) % 10 % 16 + (b.val : Int) % 10 % 16 + cb false)) (decide (255 < (a.val : Int) / 10 * 16 + (a.val : Int) % 10 + ((b.val : Int) / 10 * 16 + (b.val : Int) % 10) + cb false)) = ((a.val : Int) + (b.val : Int)) / 10 % 10 * 16 + ((a.val : Int) + (b.val : Int)) % 10 ∧
    daaC (((a.val : Int) / 10 * 16 + (a.val : Int) % 10 + ((b.val : Int) / 10 * 16 + (b.val : Int) % 10) + cb false) % 256) (decide (15 < (a.val : Int) % 10 % 16 + (b.val : Int) % 10 % 16 + cb false)) (decide (255 < (a.val : Int) / 10 * 16 + (a.val : Int) % 10 + ((b.val : Int) / 10 * 16 + (b.val : Int) % 10) + cb false)) = decide (99 < (a.val : Int) + (b.val : Int)) := by decide +kernel
theorem tens_v (a b : Int) (h0 : 0 ≤ a) (h1 : a ≤ 99) (h2 : 0 ≤ b) (h3 : b ≤ 99) :
    daaV ((a / 10 * 16 + a % 10 + (b / 10 * 16 + b % 10) + cb false) % 256) (decide (15 < a % 10 % 16 + b % 10 % 16 + cb false)) (decide (255 < a / 10 * 16 + a % 10 + (b / 10 * 16 + b % 10) + cb false)) = (a + b) / 10 % 10 * 16 + (a + b) % 10 ∧
    daaC ((a / 10 * 16 + a % 10 + (b / 10 * 16 + b % 10) + cb false) % 256) (decide (15 < a % 10 % 16 + b % 10 % 16 + cb false)) (decide (255 < a / 10 * 16 + a % 10 + (b / 10 * 16 + b % 10) + cb false)) = decide (99 < a + b) := by
  have g := tens_all ⟨a.toNat, by omega⟩ ⟨b.toNat, by omega⟩
  have e1 : ((a.toNat : Nat) : Int) = a := by omega
  have e2 : ((b.toNat : Nat) : Int) = b := by omega
  simp only [e1, e2] at g
  exact g

end Go.Proofs.Ytpoaiojlaijoiaa
