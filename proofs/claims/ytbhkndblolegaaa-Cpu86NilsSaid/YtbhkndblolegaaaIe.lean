/- Loops over bytes: slices.Index, slices.Equal, pidginref02.Bytes. -/
import Derived.Test.YtbhkndblolegaaaIb
namespace Go.Proofs.Ytbhkndblolegaaa
open Go.RowKit
set_option linter.unusedVariables false
set_option linter.unusedSimpArgs false

/-- The cells of a slice of bytes. -/
def SeesB (w : World) (b off : Nat) (zs : List Int) : Prop := ∀ j, j < zs.length → w.cell? ⟨b, off + j, none⟩ = some (.int .u8 (zs.getD j 0))

theorem index_any (b off cap : Nat) (zs : List Int) (a : Int) (w : World) (hbig : zs.length ≤ 140737488355328) (hc : SeesB w b off zs) :
    Calls Try.prog 93 #[.slice (some ⟨b, off, none⟩) zs.length cap, .int .u8 a] w fun e w' => ∃ r : Int, e = .returned (.int .i64 r) ∧ w = w' ∧
      ((∃ k : Nat, k < zs.length ∧ r = k ∧ zs.getD k 0 = a ∧ ∀ j, j < k → ¬ a = zs.getD j 0) ∨ (r = -1 ∧ ∀ j, j < zs.length → ¬ a = zs.getD j 0)) := by
  obtain ⟨n, hn⟩ : ∃ n, n = zs.length := ⟨_, rfl⟩
  have hn' := Lib.hid hn
  rw [← hn] at hbig ⊢
  unfold SeesB at hc
  rw [← hn] at hc
  clear hn
  go_enter Try.func93, Try.ntmps93
  go_wp2
  go_loop [8] (fun i => ∃ k : Nat, k ≤ n ∧ i = .int .i64 k ∧ ∀ j, j < k → ¬ a = zs.getD j 0) (fun i => n - (intOf i).toNat)
  case atStart => exact ⟨0, Nat.zero_le _, rfl, fun j h => absurd h (Nat.not_lt_zero j)⟩
  case round =>
    obtain ⟨k, hk, rfl, hall⟩ := hrel
    have hcell : k < n → w.cell? ⟨b, off + k, none⟩ = some (.int .u8 (zs.getD k 0)) := fun h => hc _ h
    have hall' := Lib.hid hall
    clear hall hc
    go_wp2
    · have hk2 : k < n := by assumption
      have he : (a == zs[k]?.getD 0) = true := by assumption
      go_ret
      refine ⟨k, rfl, rfl, .inl ⟨k, hk2, rfl, ?_, hall'.out⟩⟩
      exact (LawfulBEq.eq_of_beq he).symm
    · have hk2 : k < n := by assumption
      have he : (a == zs[k]?.getD 0) = false := by assumption
      go_round
      case rel =>
        refine ⟨k + 1, by omega, by go_num, fun j hj => ?_⟩
        rcases Nat.lt_succ_iff_lt_or_eq.1 hj with h | rfl
        · exact hall'.out j h
        · simpa using he
      case measure => simp [intOf]; omega
    · have hk2 : ¬ k < n := by assumption
      go_ret
      refine ⟨_, rfl, rfl, .inr ⟨rfl, fun j hj => hall'.out j (by omega)⟩⟩

theorem drewN_add' (w : World) (a b : Nat) : (w.drewN a).drewN b = w.drewN (a + b) := by
  simp [World.drewN, Nat.add_assoc]

/-- Two slices of bytes, of one length. -/
theorem equal_same (b1 o1 c1 b2 o2 c2 : Nat) (zs ys : List Int) (w : World) (hbig : zs.length ≤ 140737488355328) (hl : ys.length = zs.length) (hx : SeesB w b1 o1 zs) (hy : SeesB w b2 o2 ys) :
    Calls Try.prog 43 #[.slice (some ⟨b1, o1, none⟩) zs.length c1, .slice (some ⟨b2, o2, none⟩) zs.length c2] w fun e w' => e = .returned (.bool (decide (zs = ys))) ∧ ∃ m, w' = w.drewN m := by
  obtain ⟨n, hn⟩ : ∃ n, n = zs.length := ⟨_, rfl⟩
  have hn' := Lib.hid hn
  have hl' := Lib.hid hl
  unfold SeesB at hx hy
  rw [hl] at hy
  rw [← hn] at hbig hx hy ⊢
  clear hn hl
  go_enter Try.func43, Try.ntmps43
  go_wp2
  go_loopw [13] (fun i wr => ∃ k m : Nat, k ≤ n ∧ i = .int .i64 k ∧ wr = w.drewN m ∧ ∀ j, j < k → zs.getD j 0 = ys.getD j 0) (fun i _ => n - (intOf i).toNat)
  case atStart => exact ⟨0, 0, Nat.zero_le _, rfl, rfl, fun j h => absurd h (Nat.not_lt_zero j)⟩
  case round =>
    obtain ⟨k, m, hk, rfl, rfl, hall⟩ := hrel
    have hcx : k < n → w.cell? ⟨b1, o1 + k, none⟩ = some (.int .u8 (zs.getD k 0)) := fun h => hx _ h
    have hcy : k < n → w.cell? ⟨b2, o2 + k, none⟩ = some (.int .u8 (ys.getD k 0)) := fun h => hy _ h
    have hall' := Lib.hid hall
    clear hall hx hy
    by_cases hk2 : k < n
    · have h1 := hcx hk2
      have h2 := hcy hk2
      clear hcx hcy
      go_wp2_with fail
      go_quiet (fail)
      go_wp2
      · have he : (zs[k]?.getD 0 != ys[k]?.getD 0) = true := by assumption
        go_ret
        refine ⟨?_, m + nq, by simp⟩
        have hne : ¬ zs = ys := by rintro rfl; simp at he
        simp [hne]
      · have he : (zs[k]?.getD 0 != ys[k]?.getD 0) = false := by assumption
        go_roundw
        case rel =>
          refine ⟨k + 1, _, by omega, by go_num, rfl, fun j hj => ?_⟩
          rcases Nat.lt_succ_iff_lt_or_eq.1 hj with h | rfl
          · exact hall'.out j h
          · simpa using he
        case measure => simp [intOf]; omega
    · clear hcx hcy
      go_wp2
      go_ret
      refine ⟨?_, m, rfl⟩
      have he : zs = ys := by
        apply List.ext_getElem
        · rw [hl'.out]
        · intro j g1 g2
          have := hall'.out j (by have := hn'.out; omega)
          simpa [List.getD, g1, g2] using this
      simp [he]

end Go.Proofs.Ytbhkndblolegaaa
