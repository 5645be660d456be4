/- The walk of cpu86's low: a byte register set. -/
import Derived.Test.YtbhkndblolegaaaCc
import Derived.Test.YtbhkndblolegaaaPb
import Derived.BigRegion
namespace Go.Proofs.Ytbhkndblolegaaa
open Go.RowKit
set_option linter.unusedVariables false
set_option linter.unusedSimpArgs false

set_option maxHeartbeats 1000000 in
theorem low_any (g : Nat) (r : Rg) (hr : r.Ok) (vi vo vc vd : Value) (i b : Int) (h0 : 0 ≤ i) (h1 : i ≤ 7) (c0 : 0 ≤ b) (c1 : b ≤ 255) (w : World) (h : Mach w g r vi vo vc vd) :
    Calls Try.prog 84 #[at0 g, .int .i64 i, .int .u8 b] w fun e w' => e = .returned (.tuple #[]) ∧ Mach w' g (setLow r i.toNat b) vi vo vc vd ∧ Turn (one g) w w' := by
  have hm := Lib.hid h
  obtain ⟨k0, k1, k2, k3, _, _, _, _, _, _, _, _, _, _, _, _, _, _, _, _⟩ := mach_cells h
  have f0 := h.frozen 0
  have f1 := h.frozen 1
  have f2 := h.frozen 2
  have f3 := h.frozen 3
  obtain ⟨⟨a0, a1, a2, a3, _⟩, ⟨b0, b1, b2, b3, _⟩⟩ := hr.bounds
  obtain ⟨e0, e1, e2, e3, e4, e5, e6, e7⟩ := ands3
  have s0 := word_split (r.R 0) a0 b0
  have s1 := word_split (r.R 1) a1 b1
  have s2 := word_split (r.R 2) a2 b2
  have s3 := word_split (r.R 3) a3 b3
  have o0 := word_or b (r.R 0 / 256) c0 c1 (by omega) (by omega)
  have o1 := word_or b (r.R 1 / 256) c0 c1 (by omega) (by omega)
  have o2 := word_or b (r.R 2 / 256) c0 c1 (by omega) (by omega)
  have o3 := word_or b (r.R 3 / 256) c0 c1 (by omega) (by omega)
  have q0 := or16 (r.R 0 % 256) b (by omega) (by omega) c0 c1
  have q1 := or16 (r.R 1 % 256) b (by omega) (by omega) c0 c1
  have q2 := or16 (r.R 2 % 256) b (by omega) (by omega) c0 c1
  have q3 := or16 (r.R 3 % 256) b (by omega) (by omega) c0 c1
  clear h hr
  rcases eight h0 h1 with rfl | rfl | rfl | rfl | rfl | rfl | rfl | rfl <;> clear h0 h1
  · go_enter Try.func84, Try.ntmps84
    go_wp2
    go_region
    go_end0
    exact ⟨rfl, own_eq (Own.drew (Own.set hm.out 0 _)) (by simp [cellsC, setLow, setR, upd]), .drew (.setCell (S := one g) (.inl rfl) (.refl _ _))⟩
  · go_enter Try.func84, Try.ntmps84
    go_wp2
    go_region
    go_end0
    exact ⟨rfl, own_eq (Own.drew (Own.set hm.out 1 _)) (by simp [cellsC, setLow, setR, upd]), .drew (.setCell (S := one g) (.inl rfl) (.refl _ _))⟩
  · go_enter Try.func84, Try.ntmps84
    go_wp2
    go_region
    go_end0
    exact ⟨rfl, own_eq (Own.drew (Own.set hm.out 2 _)) (by simp [cellsC, setLow, setR, upd]), .drew (.setCell (S := one g) (.inl rfl) (.refl _ _))⟩
  · go_enter Try.func84, Try.ntmps84
    go_wp2
    go_region
    go_end0
    exact ⟨rfl, own_eq (Own.drew (Own.set hm.out 3 _)) (by simp [cellsC, setLow, setR, upd]), .drew (.setCell (S := one g) (.inl rfl) (.refl _ _))⟩
  · go_enter Try.func84, Try.ntmps84
    go_wp2
    go_region
    go_end0
    exact ⟨rfl, own_eq (Own.drew (Own.set hm.out 0 _)) (by simp [cellsC, setLow, setR, upd]), .drew (.setCell (S := one g) (.inl rfl) (.refl _ _))⟩
  · go_enter Try.func84, Try.ntmps84
    go_wp2
    go_region
    go_end0
    exact ⟨rfl, own_eq (Own.drew (Own.set hm.out 1 _)) (by simp [cellsC, setLow, setR, upd]), .drew (.setCell (S := one g) (.inl rfl) (.refl _ _))⟩
  · go_enter Try.func84, Try.ntmps84
    go_wp2
    go_region
    go_end0
    exact ⟨rfl, own_eq (Own.drew (Own.set hm.out 2 _)) (by simp [cellsC, setLow, setR, upd]), .drew (.setCell (S := one g) (.inl rfl) (.refl _ _))⟩
  · go_enter Try.func84, Try.ntmps84
    go_wp2
    go_region
    go_end0
    exact ⟨rfl, own_eq (Own.drew (Own.set hm.out 3 _)) (by simp [cellsC, setLow, setR, upd]), .drew (.setCell (S := one g) (.inl rfl) (.refl _ _))⟩

end Go.Proofs.Ytbhkndblolegaaa
