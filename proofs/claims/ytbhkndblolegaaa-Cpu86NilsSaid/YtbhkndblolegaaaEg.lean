/- Plain law of reading what has been laid at a place. -/
import Derived.Test.YtbhkndblolegaaaDa
namespace Go.Proofs.Ytbhkndblolegaaa
set_option linter.unusedVariables false
set_option linter.unusedSimpArgs false

theorem fetch_at (ip : Int) (bs : List Int) (l : Plc) (hl : l.Ok) (hb : Byt bs) (k : Nat) (hk : k ≤ bs.length) (h6 : bs.length ≤ 65536) :
    ∃ rest, Byt rest ∧ fetchL (memL (withL ip bs l)) ((ip + k) % 65536) = (bs.drop k).take 4 ++ rest := by
  obtain ⟨C, hC⟩ : ∃ C, C = memL (withL ip bs l) := ⟨_, rfl⟩
  have hCo : C.Ok := by rw [hC]; exact memL_ok (withL_byt_ok hl ip bs hb)
  have hat : ∀ j, k + j < bs.length → C (((ip + k) % 65536 + (j : Int)) % 65536).toNat = bs.getD (k + j) 0 := by
    intro j hj
    have h := memL_withL ip bs l (k + j) hj h6
    rw [hC, ← h]
    have e : ((ip + (k : Int)) % 65536 + (j : Int)) % 65536 = (ip + ((k + j : Nat) : Int)) % 65536 := by omega
    rw [e]
  have hF : ∀ j, j < 4 → (fetchL C ((ip + k) % 65536)).getD j 0 = C (((ip + k) % 65536 + (j : Int)) % 65536).toNat := by
    intro j hj
    have : j = 0 ∨ j = 1 ∨ j = 2 ∨ j = 3 := by omega
    rcases this with rfl | rfl | rfl | rfl
    · have e : ((ip + (k : Int)) % 65536 + ((0 : Nat) : Int)) % 65536 = (ip + (k : Int)) % 65536 := by omega
      rw [e]; rfl
    · rfl
    · rfl
    · rfl
  have hlen : (fetchL C ((ip + k) % 65536)).length = 4 := rfl
  have hbF : Byt (fetchL C ((ip + k) % 65536)) := fetch_byt hCo _ _ _ _
  rw [← hC]
  generalize fetchL C ((ip + k) % 65536) = F at *
  refine ⟨F.drop ((bs.drop k).take 4).length, fun x hx => hbF x (List.mem_of_mem_drop hx), ?_⟩
  have e : F.take ((bs.drop k).take 4).length = (bs.drop k).take 4 := by
    apply List.ext_getElem
    · simp; omega
    · intro j g1 g2
      simp at g1 g2
      have a := hF j (by omega)
      rw [hat j (by omega)] at a
      have x1 : F.getD j 0 = F[j]'(by omega) := by simp [List.getD, show j < F.length by omega]
      have x2 : bs.getD (k + j) 0 = bs[k + j]'(by omega) := by simp [List.getD, show k + j < bs.length by omega]
      simp only [List.getElem_take, List.getElem_drop]
      rw [← x1, a, x2]
  conv => lhs; rw [← List.take_append_drop ((bs.drop k).take 4).length F]
  rw [e]
theorem read_at (ip : Int) (pre post : List Int) (l : Plc) (hl : l.Ok) (op d s n : Int) (n0 : 0 ≤ n) (n1 : n ≤ 65535) (hr : rightL (headsL op d s) n = 0) (hb : Byt (pre ++ bytesL op d s n ++ post)) (h6 : (pre ++ bytesL op d s n ++ post).length ≤ 65536) :
    readL (fetchL (memL (withL ip (pre ++ bytesL op d s n ++ post) l)) ((ip + pre.length) % 65536)) = (op, d, s, n, ((bytesL op d s n).length : Int), 0) := by
  obtain ⟨rest, hrest, e⟩ := fetch_at ip (pre ++ bytesL op d s n ++ post) l hl hb pre.length (by simp) h6
  have h4 := read_back op d s n n0 n1 hr [] (by intro x hx; cases hx)
  have e2 : ((pre ++ bytesL op d s n ++ post).drop pre.length).take 4 = bytesL op d s n ++ post.take (4 - (bytesL op d s n).length) := by
    rw [List.append_assoc, List.drop_left, List.take_append, List.take_of_length_le h4.2.2]
  rw [e, e2, List.append_assoc]
  refine (read_back op d s n n0 n1 hr _ ?_).1
  intro x hx
  rcases List.mem_append.1 hx with h | h
  · exact hb x (List.mem_append.2 (.inr (List.mem_of_mem_take h)))
  · exact hrest x h

theorem guess15 : ((List.range 256).all fun m => guessL 15 (m : Int) == (19, 0, 0)) = true := by decide +kernel
/-- 0F begins no instruction. -/
theorem read_15 (ip : Int) (i0 : 0 ≤ ip) (i1 : ip ≤ 65535) (l : Plc) (hl : l.Ok) : readL (fetchL (memL (withL ip [15] l)) ip) = (0, 0, 0, 0, 0, 12) := by
  have hb : Byt [15] := by intro x hx; simp at hx; omega
  have hCo : (memL (withL ip [15] l)).Ok := memL_ok (withL_byt_ok hl ip [15] hb)
  have h0 := memL_withL ip [15] l 0 (by decide) (by decide)
  have e0 : ((ip + ((0 : Nat) : Int)) % 65536).toNat = ip.toNat := by omega
  rw [e0] at h0
  have hF : fetchL (memL (withL ip [15] l)) ip = [15, memL (withL ip [15] l) ((ip + 1) % 65536).toNat, memL (withL ip [15] l) ((ip + 2) % 65536).toNat, memL (withL ip [15] l) ((ip + 3) % 65536).toNat] := by
    unfold fetchL
    rw [h0]
    rfl
  rw [hF]
  have b1 := hCo ((ip + 1) % 65536).toNat
  generalize memL (withL ip [15] l) ((ip + 1) % 65536).toNat = x1 at *
  have g := guess15
  rw [List.all_eq_true] at g
  have g1 := g x1.toNat (by simp; omega)
  have e1 : ((x1.toNat : Nat) : Int) = x1 := by omega
  rw [e1] at g1
  have g2 : guessL 15 x1 = (19, 0, 0) := LawfulBEq.eq_of_beq g1
  have hh : headsL 19 0 0 = ([], 0) := by decide
  simp only [readL]
  have ht : tryL [15, x1, memL (withL ip [15] l) ((ip + 2) % 65536).toNat, memL (withL ip [15] l) ((ip + 3) % 65536).toNat] x1 = none := by
    unfold tryL
    simp only [List.getD_cons_zero, g2, hh]
    simp
  rw [ht]
  rfl
/-- HLT. -/
theorem read_hlt (ip : Int) (i0 : 0 ≤ ip) (i1 : ip ≤ 65535) (l : Plc) (hl : l.Ok) : readL (fetchL (memL (withL ip [244] l)) ip) = (28, 0, 0, 0, 1, 0) := by
  have h := read_at ip [] [] l hl 28 0 0 0 (by decide) (by decide) (by decide) (by intro x hx; rw [show ([] : List Int) ++ bytesL 28 0 0 0 ++ [] = [244] by decide] at hx; simp at hx; omega) (by decide)
  rw [show ([] : List Int) ++ bytesL 28 0 0 0 ++ [] = [244] by decide, show ((bytesL 28 0 0 0).length : Int) = 1 by decide] at h
  have e : (ip + (([] : List Int).length : Int)) % 65536 = ip := by simp; omega
  rw [e] at h
  exact h

end Go.Proofs.Ytbhkndblolegaaa
