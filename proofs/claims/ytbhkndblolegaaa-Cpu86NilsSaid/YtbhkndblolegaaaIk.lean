/- The walk of pidginref02.Bytes. -/
import Derived.Test.YtbhkndblolegaaaIe
namespace Go.Proofs.Ytbhkndblolegaaa
open Go.RowKit
set_option linter.unusedVariables false
set_option linter.unusedSimpArgs false

theorem rbytes_same (b1 o1 c1 b2 o2 c2 : Nat) (zs ys : List Int) (w : World) (hbig : zs.length ≤ 140737488355328) (hl : ys.length = zs.length) (hx : SeesB w b1 o1 zs) (hy : SeesB w b2 o2 ys) :
    Calls Try.prog 25 #[.slice (some ⟨b1, o1, none⟩) zs.length c1, .slice (some ⟨b2, o2, none⟩) zs.length c2] w fun e w' => e = .returned (.bool (decide (zs = ys))) ∧ ∃ m, w' = w.drewN m := by
  obtain ⟨n, hn⟩ : ∃ n, n = zs.length := ⟨_, rfl⟩
  have hn' := Lib.hid hn
  have hl' := Lib.hid hl
  unfold SeesB at hx hy
  rw [hl] at hy
  rw [← hn] at hbig hx hy ⊢
  clear hn hl
  go_enter Try.func25, Try.ntmps25
  go_wp2
  go_loopw [5] (fun i wr => ∃ k m : Nat, k ≤ n ∧ i = .int .i64 k ∧ wr = w.drewN m ∧ ∀ j, j < k → zs.getD j 0 = ys.getD j 0) (fun i _ => n - (intOf i).toNat)
  case atStart => exact ⟨0, 0, Nat.zero_le _, rfl, rfl, fun j h => absurd h (Nat.not_lt_zero j)⟩
  case round =>
    obtain ⟨k, m, hk, rfl, rfl, hall⟩ := hrel
    have hcx : k < n → w.cell? ⟨b1, o1 + k, none⟩ = some (.int .u8 (zs.getD k 0)) := fun h => hx _ h
    have hcy : k < n → w.cell? ⟨b2, o2 + k, none⟩ = some (.int .u8 (ys.getD k 0)) := fun h => hy _ h
    have hall' := Lib.hid hall
    clear hall hx hy
    by_cases hk2 : k < n
    · have h1 := hcx hk2
      have h2 := hcy hk2
      clear hcx hcy
      go_wp2_with fail
      go_quiet (fail)
      go_wp2
      · have he : (zs[k]?.getD 0 != ys[k]?.getD 0) = true := by assumption
        go_ret
        refine ⟨?_, m + nq, by simp⟩
        have hne : ¬ zs = ys := by rintro rfl; simp at he
        simp [hne]
      · have he : (zs[k]?.getD 0 != ys[k]?.getD 0) = false := by assumption
        go_roundw
        case rel =>
          refine ⟨k + 1, _, by omega, by go_num, rfl, fun j hj => ?_⟩
          rcases Nat.lt_succ_iff_lt_or_eq.1 hj with h | rfl
          · exact hall'.out j h
          · simpa using he
        case measure => simp [intOf]; omega
    · clear hcx hcy
      go_wp2
      go_ret
      refine ⟨?_, m, rfl⟩
      have he : zs = ys := by
        apply List.ext_getElem
        · rw [hl'.out]
        · intro j g1 g2
          have := hall'.out j (by have := hn'.out; omega)
          simpa [List.getD, g1, g2] using this
      simp [he]

/-- Of two lengths. -/
theorem rbytes_lens (p1 p2 : Option Addr) (n1 c1 n2 c2 : Nat) (hne : ¬ (n1 : Int) = n2) (hb1 : n1 ≤ 140737488355328) (hb2 : n2 ≤ 140737488355328) (w : World) :
    Calls Try.prog 25 #[.slice p1 n1 c1, .slice p2 n2 c2] w fun e w' => e = .returned (.bool false) ∧ w' = w := by
  have hne' : ((n1 : Int) != n2) = true := by simpa using hne
  go_enter Try.func25, Try.ntmps25
  go_wp2
  go_ret
  exact ⟨rfl, rfl⟩
/-- Nothing with nothing. -/
theorem rbytes_none (p1 p2 : Option Addr) (c1 c2 : Nat) (w : World) :
    Calls Try.prog 25 #[.slice p1 0 c1, .slice p2 0 c2] w fun e w' => e = .returned (.bool true) ∧ w' = w := by
  go_enter Try.func25, Try.ntmps25
  go_wp2
  refine wp_loop_rounds 1 ?_
  simp only [rounds_succ]
  go_wp2
  go_ret
  exact ⟨rfl, rfl⟩

end Go.Proofs.Ytbhkndblolegaaa
