/- The walks of cpu86's push, pop, flow. -/
import Derived.Test.YtbhkndblolegaaaCh
namespace Go.Proofs.Ytbhkndblolegaaa
open Go.RowKit
set_option linter.unusedVariables false
set_option linter.unusedSimpArgs false

theorem store2_state (g db cap : Nat) (vi vo vc : Value) (s : St) (a v : Int) (a0 : 0 ≤ a) (a1 : a ≤ 65535) (w : World) (h : Sits w g db cap vi vo vc s) :
    Calls Try.prog 85 #[at0 g, .int .u16 a, .slice (some ⟨w.heap.size, 0, none⟩) 2 2] (w.alloc (.cells #[.int .u8 (v % 256), .int .u8 (v / 256)] 5)) fun e w' => e = .returned (.tuple #[]) ∧ Mem w' db (putW s.D a.toNat v) ∧ Turn (one db) w w' := by
  have on := own_new w #[.int .u8 (v % 256), .int .u8 (v / 256)] 5
  have h1 := h.below (balloc (Below.refl _ _) (.cells #[.int .u8 (v % 256), .int .u8 (v / 256)] 5))
  have hlt : db < w.heap.size := h.d.lt
  obtain ⟨a, rfl⟩ := Int.eq_ofNat_of_zero_le a0
  refine (store2_any g s.r _ _ _ db cap a w.heap.size (v % 256) (v / 256) s.D (by omega) h.cap _ h1.m h1.d (on.cell 0) (on.cell 1) (by omega) h.ne).mono ?_
  rintro e w' ⟨rfl, rfl⟩
  exact ⟨rfl, (h1.d.set a (by omega) (v % 256)).set (nextA a) (by unfold nextA; omega) (v / 256), .setCell (S := one db) (.inl rfl) (.setCell (S := one db) (.inl rfl) (.alloc (.refl _ _) _))⟩

/-- The stack. -/
def pushL (s : St) (n : Int) : St := { r := setR s.r 4 ((s.r.R 4 - 2) % 65536), D := putW s.D ((s.r.R 4 - 2) % 65536).toNat n }
def popL (s : St) : St := { s with r := setR s.r 4 ((s.r.R 4 + 2) % 65536) }
theorem putW_ok {D : Dat} (h : D.Ok) (a : Nat) (v : Int) (h0 : 0 ≤ v) (h1 : v ≤ 65535) : (putW D a v).Ok := storeL_ok h a v 16 h0 h1
theorem pushL_ok {s : St} (h : s.Ok) (n : Int) (n0 : 0 ≤ n) (n1 : n ≤ 65535) : (pushL s n).Ok := ⟨setR_ok h.r _ _ (by omega) (by omega), putW_ok h.D _ _ n0 n1⟩
theorem popL_ok {s : St} (h : s.Ok) : (popL s).Ok := ⟨setR_ok h.r _ _ (by omega) (by omega), h.D⟩

set_option maxHeartbeats 1000000 in
theorem push_any (g db cap : Nat) (vi vo vc : Value) (s : St) (n : Int) (n0 : 0 ≤ n) (n1 : n ≤ 65535) (w : World) (h : Sits w g db cap vi vo vc s) :
    Calls Try.prog 64 #[at0 g, .int .u16 n] w (Goes g db cap vi vo vc w (.tuple #[]) (pushL s n)) := by
  have k4 := (mach_cells h.m).r4
  have f4 := h.m.frozen 4
  have b0 := h.ok.r.lo 4
  have b1 := h.ok.r.hi 4
  have hw : IntKind.u8.wrap n = n % 256 := by simp [IntKind.wrap, IntKind.bits, IntKind.signed]
  have hw2 : IntKind.u16.wrap (s.r.R 4 - 2) = (s.r.R 4 - 2) % 65536 := by simp [IntKind.wrap, IntKind.bits, IntKind.signed]
  have H := Lib.hid h
  clear h
  go_enter Try.func64, Try.ntmps64
  go_wp2_with fail
  go_region
  obtain ⟨W, hW⟩ : ∃ W, W = (w.setCell ⟨g, 4, none⟩ (.int .u16 ((s.r.R 4 - 2) % 65536))).drew := ⟨_, rfl⟩
  rw [← hW]
  have T : Turn (one g) w W := by rw [hW]; exact .drew (.setCell (.inl rfl) (.refl _ _))
  have M : Mach W g (setR s.r 4 ((s.r.R 4 - 2) % 65536)) vi vo vc (.slice (some ⟨db, 0, none⟩) 65536 cap) := by rw [hW]; exact own_eq (Own.drew (Own.set H.out.m 4 _)) (by simp [cellsC, setR, upd])
  have S := H.out.regs M (setR_ok H.out.ok.r _ _ (by omega) (by omega)) T
  have L := store2_state g db cap vi vo vc _ ((s.r.R 4 - 2) % 65536) n (by omega) (by omega) W S
  have q4 := (mach_cells S.m).r4
  simp only [setR, upd, if_true] at q4
  clear hW k4 f4
  go_wp2_with (go_at_call 85; with_reducible refine L.mono ?_; rintro e w2 ⟨rfl, M2, T2⟩)
  go_end0
  exact ⟨rfl, S.data M2 (putW_ok H.out.ok.D _ _ n0 n1) T2, (turn_g T).trans (turn_d T2)⟩

set_option maxHeartbeats 1000000 in
theorem pop_any (g db cap : Nat) (vi vo vc : Value) (s : St) (w : World) (h : Sits w g db cap vi vo vc s) :
    Calls Try.prog 65 #[at0 g] w (Goes g db cap vi vo vc w (.int .u16 (wordL s.D (s.r.R 4).toNat)) (popL s)) := by
  have k4 := (mach_cells h.m).r4
  have f4 := h.m.frozen 4
  have b0 := h.ok.r.lo 4
  have b1 := h.ok.r.hi 4
  have hw2 : IntKind.u16.wrap (s.r.R 4 + 2) = (s.r.R 4 + 2) % 65536 := by simp [IntKind.wrap, IntKind.bits, IntKind.signed]
  have hw3 : IntKind.u16.wrap ((s.r.R 4 + 2) % 65536 - 2) = s.r.R 4 := by
    simp only [IntKind.wrap, IntKind.bits, IntKind.signed]
    simp
    omega
  have H := Lib.hid h
  clear h
  go_enter Try.func65, Try.ntmps65
  go_wp2_with fail
  go_region
  obtain ⟨W, hW⟩ : ∃ W, W = (w.setCell ⟨g, 4, none⟩ (.int .u16 ((s.r.R 4 + 2) % 65536))).drew := ⟨_, rfl⟩
  rw [← hW]
  have T : Turn (one g) w W := by rw [hW]; exact .drew (.setCell (.inl rfl) (.refl _ _))
  have M : Mach W g (setR s.r 4 ((s.r.R 4 + 2) % 65536)) vi vo vc (.slice (some ⟨db, 0, none⟩) 65536 cap) := by rw [hW]; exact own_eq (Own.drew (Own.set H.out.m 4 _)) (by simp [cellsC, setR, upd])
  have S := H.out.regs M (setR_ok H.out.ok.r _ _ (by omega) (by omega)) T
  have L := load_int g _ _ _ _ db cap (s.r.R 4) s.D H.out.ok.D 16 (.inr rfl) b0 b1 S.cap W S.m S.d
  have q4 := (mach_cells S.m).r4
  simp only [setR, upd, if_true] at q4
  clear hW k4 f4
  go_wp2_with (go_at_call 82; with_reducible refine L.mono ?_; rintro e w2 ⟨rfl, k, rfl⟩)
  go_ret
  exact ⟨rfl, S.drewN k, (turn_g T).drewN k⟩

end Go.Proofs.Ytbhkndblolegaaa
