/- Plain law of Cpu86Wide: a sum of words is that of their low bytes, and of their high ones with the carry. -/
import Derived.Test.YtbhkndblolegaaaEe
namespace Go.Proofs.Ytbhkndblolegaaa
set_option linter.unusedVariables false
set_option linter.unusedSimpArgs false

/-- One instruction on words; two on their bytes. -/
def wideA (op m n : Int) (f : Fl) : St := doesL (pastL ⟨rE m n f, memL []⟩ (2 : Int).toNat) op 9 10 0
def wideB (op m n : Int) (f : Fl) : St := doesL (pastL ⟨rE m n f, memL []⟩ (2 : Int).toNat) op 1 2 0
def wideC (op op2 m n : Int) (f : Fl) : St := doesL (pastL (wideB op m n f) (2 : Int).toNat) op2 5 6 0

theorem wide_past (m n : Int) (f : Fl) (D : Dat) : ∃ P, P = pastL ⟨rE m n f, D⟩ (2 : Int).toNat ∧ P.r.R 0 = m ∧ P.r.R 1 = n ∧ P.r.F = f ∧ P.r.ip = 2 ∧ P.r.halt = false :=
  ⟨_, rfl, rfl, rfl, rfl, rfl, rfl⟩
theorem wideA_is (k m n : Int) (f : Fl) (hk : k = 0 ∨ k = 5) (m0 : 0 ≤ m) (m1 : m ≤ 65535) (n0 : 0 ≤ n) (n1 : n ≤ 65535) :
    (wideA (k + 2) m n f).r.R 0 = sumN k m n f.c % 65536 ∧ (wideA (k + 2) m n f).r.F = flagsF 16 (sumN k m n f.c) (sumA k m n f.c) := by
  unfold wideA
  obtain ⟨P, hP, h0, h1, hF, _, _⟩ := wide_past m n f (memL [])
  rw [← hP]
  clear hP
  have hm : ofL 9 10 = 16 := by decide
  have hc : P.r.F.c = f.c := by rw [hF]
  have g1 : getL P 9 0 16 = m := by simpa [getL] using h0
  have g2 : getL P 10 0 16 = n := by simpa [getL] using h1
  unfold doesL
  simp only [hm]
  rcases hk with rfl | rfl <;> simp [sumS, g1, g2, hc, setL, setR, upd, setF, flagsV]
theorem wideB_is (k m n : Int) (f : Fl) (hk : k = 0 ∨ k = 5) (m0 : 0 ≤ m) (m1 : m ≤ 65535) (n0 : 0 ≤ n) (n1 : n ≤ 65535) :
    (wideB (k + 2) m n f).r.R 0 = m / 256 * 256 + sumN k (m % 256) (n % 256) f.c % 256 ∧ (wideB (k + 2) m n f).r.R 1 = n ∧ (wideB (k + 2) m n f).r.F = flagsF 8 (sumN k (m % 256) (n % 256) f.c) (sumA k (m % 256) (n % 256) f.c) ∧ (wideB (k + 2) m n f).r.ip = 2 ∧ (wideB (k + 2) m n f).r.halt = false := by
  unfold wideB
  obtain ⟨P, hP, h0, h1, hF, hi, hh⟩ := wide_past m n f (memL [])
  rw [← hP]
  clear hP
  have hm : ofL 1 2 = 8 := by decide
  have hc : P.r.F.c = f.c := by rw [hF]
  have g1 : getL P 1 0 8 = m % 256 := by simp [getL, lowL, h0]
  have g2 : getL P 2 0 8 = n % 256 := by simp [getL, lowL, h1]
  unfold doesL
  simp only [hm]
  rcases hk with rfl | rfl <;> simp [sumS, g1, g2, hc, setL, setLow, setR, upd, setF, flagsV, h0, h1, hi, hh]
theorem wideC_is (k m n : Int) (f : Fl) (k2 : Int) (hk : k = 0 ∧ k2 = 2 ∨ k = 5 ∧ k2 = 3) (m0 : 0 ≤ m) (m1 : m ≤ 65535) (n0 : 0 ≤ n) (n1 : n ≤ 65535) :
    let c := (flagsF 8 (sumN k (m % 256) (n % 256) f.c) (sumA k (m % 256) (n % 256) f.c)).c
    (wideC (k + 2) (k2 + 2) m n f).r.R 0 = sumN k (m % 256) (n % 256) f.c % 256 + sumN k2 (m / 256) (n / 256) c % 256 * 256 ∧ (wideC (k + 2) (k2 + 2) m n f).r.F = flagsF 8 (sumN k2 (m / 256) (n / 256) c) (sumA k2 (m / 256) (n / 256) c) := by
  intro c
  obtain ⟨e0, e1, e2, e3, e4⟩ := wideB_is k m n f (by omega) m0 m1 n0 n1
  unfold wideC
  generalize wideB (k + 2) m n f = B at *
  obtain ⟨P, hP⟩ : ∃ P, P = pastL B (2 : Int).toNat := ⟨_, rfl⟩
  have p0 : P.r.R 0 = m / 256 * 256 + sumN k (m % 256) (n % 256) f.c % 256 := by rw [hP]; exact e0
  have p1 : P.r.R 1 = n := by rw [hP]; exact e1
  have pF : P.r.F.c = c := by rw [hP]; show B.r.F.c = c; rw [e2]
  rw [← hP]
  clear hP
  have hm : ofL 5 6 = 8 := by decide
  generalize sumN k (m % 256) (n % 256) f.c = N at *
  have g1 : getL P 5 0 8 = m / 256 := by
    simp [getL, lowL, p0]; omega
  have g2 : getL P 6 0 8 = n / 256 := by simp [getL, lowL, p1]
  have q0 : P.r.R 0 % 256 = N % 256 := by rw [p0]; omega
  unfold doesL
  simp only [hm]
  rcases hk with ⟨rfl, rfl⟩ | ⟨rfl, rfl⟩ <;> simp [sumS, g1, g2, pF, setL, setLow, setR, upd, setF, flagsV, q0]

theorem wide_law (k m n : Int) (f : Fl) (k2 : Int) (hk : k = 0 ∧ k2 = 2 ∨ k = 5 ∧ k2 = 3) (m0 : 0 ≤ m) (m1 : m ≤ 65535) (n0 : 0 ≤ n) (n1 : n ≤ 65535) :
    (wideA (k + 2) m n f).r.R 0 = (wideC (k + 2) (k2 + 2) m n f).r.R 0 ∧ (wideA (k + 2) m n f).r.F.c = (wideC (k + 2) (k2 + 2) m n f).r.F.c ∧ (wideA (k + 2) m n f).r.F.s = (wideC (k + 2) (k2 + 2) m n f).r.F.s ∧ (wideA (k + 2) m n f).r.F.z = ((wideA (k + 2) m n f).r.R 0 == 0) := by
  obtain ⟨a0, aF⟩ := wideA_is k m n f (by omega) m0 m1 n0 n1
  obtain ⟨c0, cF⟩ := wideC_is k m n f k2 hk m0 m1 n0 n1
  rw [a0, c0, aF, cF]
  rcases hk with ⟨rfl, rfl⟩ | ⟨rfl, rfl⟩
  · obtain ⟨c, hc⟩ : ∃ c, c = (flagsF 8 (sumN 0 (m % 256) (n % 256) f.c) (sumA 0 (m % 256) (n % 256) f.c)).c := ⟨_, rfl⟩
    have hcb : cb c = (m % 256 + n % 256) / 256 := by
      rw [hc]
      simp only [flagsF, sumN, if_true, cb, beq_iff_eq]
      split <;> omega
    rw [← hc]
    simp only [sumN, flagsF, flagsV, if_true, if_neg (show ¬ (2 : Int) = 0 by decide), if_neg (show ¬ (16 : Int) = 8 by decide), hcb]
    refine ⟨by omega, ?_, ?_, trivial⟩
    · rw [Bool.eq_iff_iff]; simp only [beq_iff_eq]; omega
    · rw [Bool.eq_iff_iff]; simp only [decide_eq_true_eq]; omega
  · obtain ⟨c, hc⟩ : ∃ c, c = (flagsF 8 (sumN 5 (m % 256) (n % 256) f.c) (sumA 5 (m % 256) (n % 256) f.c)).c := ⟨_, rfl⟩
    have e5 : ∀ a b : Int, ∀ x : Bool, sumN 5 a b x = (a - b) % 4294967296 := fun a b x => by simp [sumN]
    have e3 : ∀ a b : Int, ∀ x : Bool, sumN 3 a b x = (a - b - cb x) % 4294967296 := fun a b x => by simp [sumN]
    have hcb : cb c = if m % 256 < n % 256 then 1 else 0 := by
      rw [hc]
      simp only [flagsF, e5, if_true, cb, beq_iff_eq]
      split <;> split <;> omega
    rw [← hc]
    simp only [e5, e3, flagsF, flagsV, if_true, if_neg (show ¬ (16 : Int) = 8 by decide), hcb]
    refine ⟨by split <;> omega, ?_, ?_, trivial⟩
    · rw [Bool.eq_iff_iff]; simp only [beq_iff_eq]; split <;> omega
    · rw [Bool.eq_iff_iff]; simp only [decide_eq_true_eq]; split <;> omega

/-- What is read. -/
theorem read_wA (k : Int) (hk : k = 0 ∨ k = 5) (m n : Int) (f : Fl) : readL (fetchL (memL (withL (rE m n f).ip [8 * k + 1, 200] [])) (rE m n f).ip) = (k + 2, 9, 10, 0, 2, 0) := by
  show readL (fetchL (memL (withL 0 [8 * k + 1, 200] [])) 0) = (k + 2, 9, 10, 0, 2, 0)
  rcases hk with rfl | rfl <;> decide +kernel
theorem read_wB (k k2 : Int) (hk : k = 0 ∧ k2 = 2 ∨ k = 5 ∧ k2 = 3) (m n : Int) (f : Fl) : readL (fetchL (memL (withL (rE m n f).ip [8 * k, 200, 8 * k2, 236] [])) (rE m n f).ip) = (k + 2, 1, 2, 0, 2, 0) := by
  show readL (fetchL (memL (withL 0 [8 * k, 200, 8 * k2, 236] [])) 0) = (k + 2, 1, 2, 0, 2, 0)
  rcases hk with ⟨rfl, rfl⟩ | ⟨rfl, rfl⟩ <;> decide +kernel
theorem read_wC (k k2 : Int) (hk : k = 0 ∧ k2 = 2 ∨ k = 5 ∧ k2 = 3) (m n : Int) (f : Fl) : readL (fetchL (memL (withL (rE m n f).ip [8 * k, 200, 8 * k2, 236] [])) 2) = (k2 + 2, 5, 6, 0, 2, 0) := by
  show readL (fetchL (memL (withL 0 [8 * k, 200, 8 * k2, 236] [])) 2) = (k2 + 2, 5, 6, 0, 2, 0)
  rcases hk with ⟨rfl, rfl⟩ | ⟨rfl, rfl⟩ <;> decide +kernel

end Go.Proofs.Ytbhkndblolegaaa
