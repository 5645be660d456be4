/- Plain law of Cpu86AsEight: what a sum of two byte registers leaves. -/
import Derived.Test.YtbhkndblolegaaaDs
import Derived.Test.YtbhkndblolegaaaPa
namespace Go.Proofs.Ytbhkndblolegaaa
set_option linter.unusedVariables false
set_option linter.unusedSimpArgs false

/-- A start with two registers, and flags. -/
def rE (a b : Int) (f : Fl) : Rg := { R := fun i => if i = 0 then a else if i = 1 then b else 0, F := f, ip := 0, ie := false, halt := false }
theorem rE_ok (a b : Int) (f : Fl) (a0 : 0 ≤ a) (a1 : a ≤ 65535) (b0 : 0 ≤ b) (b1 : b ≤ 65535) : (rE a b f).Ok := by
  refine ⟨fun i => ?_, fun i => ?_, Int.le_refl 0, (by show (0 : Int) ≤ 65535; decide)⟩ <;> (simp only [rE]; repeat' split) <;> omega

theorem eight_st (k a b : Int) (f : Fl) (D : Dat) (hk : k = 0 ∨ k = 2 ∨ k = 3 ∨ k = 5 ∨ k = 7) (a0 : 0 ≤ a) (a1 : a ≤ 255) (b0 : 0 ≤ b) (b1 : b ≤ 255) :
    lowL (doesL (pastL ⟨rE a b f, D⟩ (2 : Int).toNat) (k + 2) 1 2 0).r 0 = (if k = 7 then a else flagsV 8 (sumN k a b f.c)) ∧
    (doesL (pastL ⟨rE a b f, D⟩ (2 : Int).toNat) (k + 2) 1 2 0).r.F = flagsF 8 (sumN k a b f.c) (sumA k a b f.c) := by
  have ha : a % 256 = a := by omega
  have hb : b % 256 = b := by omega
  have h0 : ∀ n : Int, flagsV 8 n = n % 256 := fun n => by simp [flagsV]
  have g1 : getL (pastL ⟨rE a b f, D⟩ (2 : Int).toNat) 1 0 8 = a := by simp [getL, pastL, setIp, lowL, rE, ha]
  have g2 : getL (pastL ⟨rE a b f, D⟩ (2 : Int).toNat) 2 0 8 = b := by simp [getL, pastL, setIp, lowL, rE, hb]
  have hm : ofL 1 2 = 8 := by decide
  have hc : (pastL ⟨rE a b f, D⟩ (2 : Int).toNat).r.F.c = f.c := rfl
  have hR : lowL (pastL ⟨rE a b f, D⟩ (2 : Int).toNat).r 0 = a := by simp [pastL, setIp, lowL, rE, ha]
  generalize pastL ⟨rE a b f, D⟩ (2 : Int).toNat = P at *
  unfold doesL
  simp only [hm]
  rcases hk with rfl | rfl | rfl | rfl | rfl
  · simp [sumS, g1, g2, hc, setL, setLow, lowL, setR, upd, setF, h0]
  · simp [sumS, g1, g2, hc, setL, setLow, lowL, setR, upd, setF, h0]
  · simp [sumS, g1, g2, hc, setL, setLow, lowL, setR, upd, setF, h0]
  · simp [sumS, g1, g2, hc, setL, setLow, lowL, setR, upd, setF, h0]
  · simp only [lowL] at hR
    simp [g1, g2, hc, lowL, setF]
    simpa using hR

theorem eight_add (a b : Int) (x : Bool) (c : Int) (a0 : 0 ≤ a) (a1 : a ≤ 255) (b0 : 0 ≤ b) (b1 : b ≤ 255) (c0 : 0 ≤ c) (c1 : c ≤ 1) :
    flagsF 8 (a + b + c) x = ⟨sgn ((a + b + c) % 256), (a + b + c) % 256 == 0, x, par ((a + b + c) % 256), decide (255 < a + b + c)⟩ := by
  have e : ((a + b + c) / 256 % 2 == 1) = decide (255 < a + b + c) := by
    rw [Bool.eq_iff_iff]; simp; omega
  simp [flagsF, flagsV, sgn, e]
theorem eight_sub (a b : Int) (x : Bool) (c : Int) (a0 : 0 ≤ a) (a1 : a ≤ 255) (b0 : 0 ≤ b) (b1 : b ≤ 255) (c0 : 0 ≤ c) (c1 : c ≤ 1) :
    flagsF 8 ((a - b - c) % 4294967296) x = ⟨sgn ((a - b - c + 256) % 256), (a - b - c + 256) % 256 == 0, x, par ((a - b - c + 256) % 256), decide (a - b - c < 0)⟩ := by
  have e : ((a - b - c) % 4294967296 / 256 % 2 == 1) = decide (a - b - c < 0) := by
    rw [Bool.eq_iff_iff]; simp; omega
  have e2 : (a - b - c) % 4294967296 % 256 = (a - b - c + 256) % 256 := by omega
  simp [flagsF, flagsV, sgn, e, e2]
theorem eight_aux (a b c : Int) (d : Bool) (hc : c = cb d) : decide (a % 16 < b % 16 + c) = !decide (15 < a % 16 + 15 - b % 16 + cb (!d)) := by
  rw [cb_not, ← hc, ← decide_not]
  congr 1
  apply propext
  omega

/-- The op's code at k. -/
theorem read_e (k : Int) (hk : k = 0 ∨ k = 2 ∨ k = 3 ∨ k = 5 ∨ k = 7) (a b : Int) (f : Fl) : readL (fetchL (memL (withL (rE a b f).ip [8 * k, 200] [])) (rE a b f).ip) = (k + 2, 1, 2, 0, 2, 0) := by
  show readL (fetchL (memL (withL 0 [8 * k, 200] [])) 0) = (k + 2, 1, 2, 0, 2, 0)
  rcases hk with rfl | rfl | rfl | rfl | rfl <;> decide +kernel

end Go.Proofs.Ytbhkndblolegaaa
