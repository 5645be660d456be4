/- What isa86.Read tells of two bytes and more, in one word. -/
import Derived.Test.YtbhkndblolegaaaIz1
import Derived.Test.YtbhkndblolegaaaIz2
import Derived.Test.YtbhkndblolegaaaIz3
import Derived.Test.YtbhkndblolegaaaIz4
import Derived.Test.YtbhkndblolegaaaIl
namespace Go.Proofs.Ytbhkndblolegaaa
open Go.RowKit
set_option linter.unusedVariables false
set_option linter.unusedSimpArgs false

theorem try_none (b : List Int) (m op d s t : Int) (hb : List Int) (hg : guessL (b.getD 0 0) m = (op, d, s)) (hh : headsL op d s = (hb, t))
    (h : hb = [] ∨ ¬ hb.take (min hb.length b.length) = b.take (min hb.length b.length) ∨ (hb.length = 2 ∧ ¬ hb.getD 1 0 = m)) : tryL b m = none := by
  unfold tryL
  simp only [hg, hh]
  rw [if_pos h]

theorem read_two (gb off cap : Nat) (b0 b1 : Int) (r : List Int) (hn2 : (b0 :: b1 :: r).length ≤ 1000) (hcap : (b0 :: b1 :: r).length ≤ cap) (hby : Byt (b0 :: b1 :: r)) (w : World) (hs : SeesB w gb off (b0 :: b1 :: r)) :
    Calls Try.prog 23 #[.slice (some ⟨gb, off, none⟩) (b0 :: b1 :: r).length cap] w fun e w' => e = .returned (toldV (readL (b0 :: b1 :: r))) ∧ Below w.heap.size w w' := by
  have hb0 := hby b0 (by simp)
  have hb1 := hby b1 (by simp)
  have c0 : w.cell? ⟨gb, off, none⟩ = some (.int .u8 b0) := hs 0 (by simp)
  have c1 : w.cell? ⟨gb, off + 1, none⟩ = some (.int .u8 b1) := hs 1 (by simp)
  obtain ⟨op, d, s, hg⟩ : ∃ op d s, guessL b0 b1 = (op, d, s) := ⟨_, _, _, rfl⟩
  have G : Tells3 b0 b1 op d s := by
    intro w
    have := guess_any b0 b1 hb0.1 hb0.2 hb1.1 hb1.2 w
    rw [hg] at this
    exact this
  obtain ⟨hb, t, hh⟩ : ∃ hb t, headsL op d s = (hb, t) := ⟨_, _, rfl⟩
  have H : TellsH op d s hb t := by
    intro w
    have := heads_any op d s w
    rw [hh] at this
    exact this
  obtain ⟨ht, hl⟩ := heads_tail op d s
  rw [hh] at ht hl
  simp only at ht hl
  have hg' : guessL ((b0 :: b1 :: r).getD 0 0) b1 = (op, d, s) := by simpa using hg
  obtain ⟨n, hnn⟩ : ∃ n, n = (b0 :: b1 :: r).length := ⟨_, rfl⟩
  have hn : (2 : Int) ≤ (n : Int) := by rw [hnn]; simp; omega
  have k2 : (2 : Int) ≤ (cap : Int) := by omega
  have k3 : (n : Int) ≤ (cap : Int) := by omega
  have n3 : n ≤ 1000 := by omega
  have key : ∀ o v, tryL (b0 :: b1 :: r) b1 = o → toldV (o.getD noneT) = v → (Calls Try.prog 23 #[.slice (some ⟨gb, off, none⟩) n cap] w fun e w' => e = .returned v ∧ Below w.heap.size w w') →
      Calls Try.prog 23 #[.slice (some ⟨gb, off, none⟩) (b0 :: b1 :: r).length cap] w fun e w' => e = .returned (toldV (readL (b0 :: b1 :: r))) ∧ Below w.heap.size w w' := by
    rintro o v rfl rfl h
    rw [hnn] at h
    exact h
  have hlen : (b0 :: b1 :: r).length = n := hnn.symm
  have m1 : min 1 (b0 :: b1 :: r).length = 1 := by simp
  have m2 : min 2 (b0 :: b1 :: r).length = 2 := by simp
  match hb, hl with
  | [], _ => exact key _ _ (try_none _ _ op d s t [] hg' hh (.inl rfl)) rfl (read_A gb off n cap b0 b1 op d s t G H w hn n3 k2 k3 c0 c1)
  | [x], _ =>
    by_cases hx : x = b0
    · subst hx
      have hp : [x].take (min [x].length (x :: b1 :: r).length) = (x :: b1 :: r).take (min [x].length (x :: b1 :: r).length) := by
        show List.take (min 1 _) _ = List.take (min 1 _) _
        rw [m1]; simp
      rcases ht with rfl | rfl | rfl | rfl
      · refine key _ _ (try_told _ _ op d s 0 [x] hg' hh (by simp) hp (by simp) (by simp [sizeL, tailN])) ?_ (read_O10 gb off n cap x b1 op d s G H w hn n3 k2 k3 (by omega) hb1.1 hb1.2 c0 c1)
        simp [toldV, nOf, sizeL, tailN]
      · refine key _ _ (try_told _ _ op d s 1 [x] hg' hh (by simp) hp (by simp) (by simp [sizeL, tailN])) ?_ (read_O11 gb off n cap x b1 op d s G H w hn n3 k2 k3 (by omega) hb1.1 hb1.2 c0 c1)
        simp [toldV, nOf, sizeL, tailN]
      · by_cases h3 : n < 3
        · exact key _ _ (try_short _ _ op d s 2 [x] hg' hh (by simp) hp (by simp) (by rw [hlen]; simp [sizeL, tailN]; omega)) rfl (read_S12 gb off n cap x b1 op d s G H w hn n3 k2 k3 (by omega) c0 c1)
        · obtain ⟨b2, r2, rfl⟩ : ∃ b2 r2, r = b2 :: r2 := by
            cases r with
            | nil => simp at hlen; omega
            | cons a b => exact ⟨a, b, rfl⟩
          have hb2 := hby b2 (by simp)
          have c2 : w.cell? ⟨gb, off + 2, none⟩ = some (.int .u8 b2) := hs 2 (by simp)
          refine key _ _ (try_told _ _ op d s 2 [x] hg' hh (by simp) hp (by simp) (by simp [sizeL, tailN])) ?_ (read_O12 gb off n cap x b1 b2 op d s G H w hn n3 k2 k3 (by omega) hb1.1 hb1.2 hb2.1 hb2.2 c0 c1 c2)
          simp [toldV, nOf, sizeL, tailN]
      · refine key _ _ (try_told _ _ op d s 3 [x] hg' hh (by simp) hp (by simp) (by simp [sizeL, tailN])) ?_ (read_O13 gb off n cap x b1 op d s G H w hn n3 k2 k3 (by omega) hb1.1 hb1.2 c0 c1)
        simp [toldV, nOf, sizeL, tailN]
    · refine key _ _ (try_none _ _ op d s t [x] hg' hh (.inr (.inl ?_))) rfl (read_B1 gb off n cap b0 b1 op d s x t G H w hn n3 k2 k3 hx c0 c1)
      show ¬ List.take (min 1 _) _ = List.take (min 1 _) _
      rw [m1]; simpa using hx
  | [x, y], _ =>
    by_cases hx : [x, y] = [b0, b1]
    · obtain ⟨rfl, rfl⟩ : x = b0 ∧ y = b1 := by simpa using hx
      have hp : [x, y].take (min [x, y].length (x :: y :: r).length) = (x :: y :: r).take (min [x, y].length (x :: y :: r).length) := by
        show List.take (min 2 _) _ = List.take (min 2 _) _
        rw [m2]; simp
      rcases ht with rfl | rfl | rfl | rfl
      · refine key _ _ (try_told _ _ op d s 0 [x, y] hg' hh (by simp) hp (by simp) (by simp [sizeL, tailN])) ?_ (read_O20 gb off n cap x y op d s G H w hn n3 k2 k3 (by omega) c0 c1)
        simp [toldV, nOf, sizeL, tailN]
      · by_cases h3 : n < 3
        · exact key _ _ (try_short _ _ op d s 1 [x, y] hg' hh (by simp) hp (by simp) (by rw [hlen]; simp [sizeL, tailN]; omega)) rfl (read_S21 gb off n cap x y op d s G H w hn n3 k2 k3 (by omega) c0 c1)
        · obtain ⟨b2, r2, rfl⟩ : ∃ b2 r2, r = b2 :: r2 := by
            cases r with
            | nil => simp at hlen; omega
            | cons a b => exact ⟨a, b, rfl⟩
          have hb2 := hby b2 (by simp)
          have c2 : w.cell? ⟨gb, off + 2, none⟩ = some (.int .u8 b2) := hs 2 (by simp)
          refine key _ _ (try_told _ _ op d s 1 [x, y] hg' hh (by simp) hp (by simp) (by simp [sizeL, tailN])) ?_ (read_O21 gb off n cap x y b2 op d s G H w hn n3 k2 k3 (by omega) hb2.1 hb2.2 c0 c1 c2)
          simp [toldV, nOf, sizeL, tailN]
      · by_cases h3 : n < 4
        · exact key _ _ (try_short _ _ op d s 2 [x, y] hg' hh (by simp) hp (by simp) (by rw [hlen]; simp [sizeL, tailN]; omega)) rfl (read_S22 gb off n cap x y op d s G H w hn n3 k2 k3 (by omega) c0 c1)
        · obtain ⟨b2, b3, r2, rfl⟩ : ∃ b2 b3 r2, r = b2 :: b3 :: r2 := by
            match r, hlen with
            | [], h => simp at h; omega
            | [_], h => simp at h; omega
            | a :: b :: c, _ => exact ⟨a, b, c, rfl⟩
          have hb2 := hby b2 (by simp)
          have hb3 := hby b3 (by simp)
          have c2 : w.cell? ⟨gb, off + 2, none⟩ = some (.int .u8 b2) := hs 2 (by simp)
          have c3 : w.cell? ⟨gb, off + 3, none⟩ = some (.int .u8 b3) := hs 3 (by simp)
          refine key _ _ (try_told _ _ op d s 2 [x, y] hg' hh (by simp) hp (by simp) (by simp [sizeL, tailN])) ?_ (read_O22 gb off n cap x y b2 b3 op d s G H w hn n3 k2 k3 (by omega) hb2.1 hb2.2 hb3.1 hb3.2 c0 c1 c2 c3)
          simp [toldV, nOf, sizeL, tailN]
      · by_cases h3 : n < 3
        · exact key _ _ (try_short _ _ op d s 3 [x, y] hg' hh (by simp) hp (by simp) (by rw [hlen]; simp [sizeL, tailN]; omega)) rfl (read_S23 gb off n cap x y op d s G H w hn n3 k2 k3 (by omega) c0 c1)
        · obtain ⟨b2, r2, rfl⟩ : ∃ b2 r2, r = b2 :: r2 := by
            cases r with
            | nil => simp at hlen; omega
            | cons a b => exact ⟨a, b, rfl⟩
          have hb2 := hby b2 (by simp)
          have c2 : w.cell? ⟨gb, off + 2, none⟩ = some (.int .u8 b2) := hs 2 (by simp)
          refine key _ _ (try_told _ _ op d s 3 [x, y] hg' hh (by simp) hp (by simp) (by simp [sizeL, tailN])) ?_ (read_O23 gb off n cap x y b2 op d s G H w hn n3 k2 k3 (by omega) hb2.1 hb2.2 c0 c1 c2)
          simp [toldV, nOf, sizeL, tailN]
    · refine key _ _ (try_none _ _ op d s t [x, y] hg' hh (.inr (.inl ?_))) rfl (read_B2 gb off n cap b0 b1 op d s x y t G H w hn n3 k2 k3 hx c0 c1)
      show ¬ List.take (min 2 _) _ = List.take (min 2 _) _
      rw [m2]; simpa using hx
  | _ :: _ :: _ :: _, hl => simp at hl

end Go.Proofs.Ytbhkndblolegaaa
