/- The walks of cpu86's get, set, push, pop. -/
import Derived.Test.YtbhkndblolegaaaCb
import Derived.Test.YtbhkndblolegaaaCf
import Derived.Test.YtbhkndblolegaaaDc
namespace Go.Proofs.Ytbhkndblolegaaa
open Go.RowKit
set_option linter.unusedVariables false
set_option linter.unusedSimpArgs false

/-- A machine as it lies in memory: its own block, its data. -/
structure Sits (w : World) (g db cap : Nat) (vi vo vc : Value) (s : St) : Prop where
  m : Mach w g s.r vi vo vc (.slice (some ⟨db, 0, none⟩) 65536 cap)
  d : Mem w db s.D
  ne : ¬ g = db
  cap : (65536 : Int) ≤ cap
  ok : s.Ok
abbrev two (g db : Nat) : Nat → Prop := fun k => k = g ∨ k = db
theorem Sits.drewN {w : World} {g db cap : Nat} {vi vo vc : Value} {s : St} (h : Sits w g db cap vi vo vc s) (n : Nat) : Sits (w.drewN n) g db cap vi vo vc s := ⟨h.m, h.d.drewN n, h.ne, h.cap, h.ok⟩
theorem Sits.below {w w1 : World} {g db cap : Nat} {vi vo vc : Value} {s : St} (h : Sits w g db cap vi vo vc s) (k : Below w.heap.size w w1) : Sits w1 g db cap vi vo vc s := ⟨h.m.below k, h.d.below k, h.ne, h.cap, h.ok⟩
theorem load_int (g : Nat) (r : Rg) (vi vo vc : Value) (db cap : Nat) (a : Int) (D : Dat) (hD : D.Ok) (m : Int) (hmm : m = 8 ∨ m = 16) (a0 : 0 ≤ a) (ha : a ≤ 65535) (hcap : (65536 : Int) ≤ cap) (w : World) (hm : Mach w g r vi vo vc (.slice (some ⟨db, 0, none⟩) 65536 cap)) (hd : Mem w db D) :
    Calls Try.prog 82 #[at0 g, .int .u16 a, .int .u64 m] w fun e w' => e = .returned (.int .u16 (loadL D a.toNat m)) ∧ ∃ n, w' = w.drewN n := by
  obtain ⟨n, rfl⟩ := Int.eq_ofNat_of_zero_le a0
  exact load_any g r vi vo vc db cap n D hD m hmm (by omega) hcap w hm hd

theorem get_low (g db cap : Nat) (vi vo vc : Value) (s : St) (code n m : Int) (c0 : 1 ≤ code) (c1 : code ≤ 8) (w : World) (h : Sits w g db cap vi vo vc s) :
    Calls Try.prog 55 #[at0 g, .int .i64 code, .int .u16 n, .int .u64 m] w fun e w' => e = .returned (.int .u16 (lowL s.r (code - 1).toNat)) ∧ w' = w := by
  have b0 := lowL_lo h.ok.r (code - 1).toNat
  have b1 := lowL_hi h.ok.r (code - 1).toNat
  have L := Low_any g s.r h.ok.r _ _ _ _ (code - 1) (by omega) (by omega) w h.m
  generalize lowL s.r (code - 1).toNat = V at *
  go_enter Try.func55, Try.ntmps55
  go_wp2_with (go_at_call 20; with_reducible refine L.mono ?_; rintro e w1 ⟨rfl, rfl⟩)
  go_ret
  exact ⟨rfl, rfl⟩
theorem get_reg (g db cap : Nat) (vi vo vc : Value) (s : St) (code n m : Int) (c0 : 9 ≤ code) (c1 : code ≤ 16) (w : World) (h : Sits w g db cap vi vo vc s) :
    Calls Try.prog 55 #[at0 g, .int .i64 code, .int .u16 n, .int .u64 m] w fun e w' => e = .returned (.int .u16 (s.r.R (code - 9).toNat)) ∧ w' = w := by
  obtain ⟨k0, k1, k2, k3, k4, k5, k6, k7, _, _, _, _, _, _, _, _, _, _, _, _⟩ := mach_cells h.m
  clear h
  have hc : code = 9 ∨ code = 10 ∨ code = 11 ∨ code = 12 ∨ code = 13 ∨ code = 14 ∨ code = 15 ∨ code = 16 := by omega
  rcases hc with rfl | rfl | rfl | rfl | rfl | rfl | rfl | rfl <;> clear c0 c1 <;>
  · go_enter Try.func55, Try.ntmps55
    go_wp2
    go_ret
    exact ⟨rfl, rfl⟩
theorem get_num (g : Nat) (n m : Int) (w : World) :
    Calls Try.prog 55 #[at0 g, .int .i64 20, .int .u16 n, .int .u64 m] w fun e w' => e = .returned (.int .u16 n) ∧ w' = w := by
  go_enter Try.func55, Try.ntmps55
  go_wp2
  go_ret
  exact ⟨rfl, rfl⟩
theorem get_mem (g db cap : Nat) (vi vo vc : Value) (s : St) (code n m : Int) (hm : m = 8 ∨ m = 16) (c0 : 17 ≤ code) (c1 : code ≤ 19) (n0 : 0 ≤ n) (n1 : n ≤ 65535) (w : World) (h : Sits w g db cap vi vo vc s) :
    Calls Try.prog 55 #[at0 g, .int .i64 code, .int .u16 n, .int .u64 m] w fun e w' => e = .returned (.int .u16 (loadL s.D (addrL s.r code n).toNat m)) ∧ ∃ k, w' = w.drewN k := by
  have b := addrL_lo h.ok.r code n n0 n1
  have b2 := loadL_lo h.ok.D (addrL s.r code n).toNat m
  have c2 : ¬ code = 20 := by omega
  go_enter Try.func55, Try.ntmps55
  go_wp2_with (first
    | (go_at_call 83; with_reducible refine (address_any g s.r _ _ _ _ code n _ h.m).mono ?_; rintro e w1 ⟨rfl, rfl⟩)
    | (go_at_call 82; with_reducible refine (load_int g s.r _ _ _ db cap (addrL s.r code n) s.D h.ok.D m hm b.1 b.2 h.cap _ h.m h.d).mono ?_; rintro e w1 ⟨rfl, k, rfl⟩))
  go_ret
  exact ⟨rfl, k, rfl⟩
theorem get_any (g db cap : Nat) (vi vo vc : Value) (s : St) (code n m : Int) (hm : m = 8 ∨ m = 16) (c0 : 1 ≤ code) (c1 : code ≤ 20) (n0 : 0 ≤ n) (n1 : n ≤ 65535) (w : World) (h : Sits w g db cap vi vo vc s) :
    Calls Try.prog 55 #[at0 g, .int .i64 code, .int .u16 n, .int .u64 m] w fun e w' => e = .returned (.int .u16 (getL s code n m)) ∧ ∃ k, w' = w.drewN k := by
  unfold getL
  split
  · refine (get_low g db cap vi vo vc s code n m c0 (by assumption) w h).mono ?_
    rintro e w' ⟨rfl, rfl⟩; exact ⟨rfl, 0, rfl⟩
  split
  · refine (get_reg g db cap vi vo vc s code n m (by omega) (by assumption) w h).mono ?_
    rintro e w' ⟨rfl, rfl⟩; exact ⟨rfl, 0, rfl⟩
  split
  · rename_i hc; subst hc
    refine (get_num g n m w).mono ?_
    rintro e w' ⟨rfl, rfl⟩; exact ⟨rfl, 0, rfl⟩
  exact get_mem g db cap vi vo vc s code n m hm (by omega) (by omega) n0 n1 w h


set_option maxHeartbeats 1000000 in
theorem set_low (g db cap : Nat) (vi vo vc : Value) (s : St) (code n v m : Int) (c0 : 1 ≤ code) (c1 : code ≤ 8) (v0 : 0 ≤ v) (v1 : v ≤ 65535) (w : World) (h : Sits w g db cap vi vo vc s) :
    Calls Try.prog 57 #[at0 g, .int .i64 code, .int .u16 n, .int .u16 v, .int .u64 m] w fun e w' => e = .returned (.tuple #[]) ∧ Mach w' g (setLow s.r (code - 1).toNat (v % 256)) vi vo vc (.slice (some ⟨db, 0, none⟩) 65536 cap) ∧ Turn (one g) w w' := by
  have L := low_any g s.r h.ok.r _ _ _ _ (code - 1) (v % 256) (by omega) (by omega) (by omega) (by omega) w h.m
  generalize setLow s.r (code - 1).toNat (v % 256) = r' at *
  have hw : IntKind.u8.wrap v = v % 256 := by simp [IntKind.wrap, IntKind.bits, IntKind.signed]
  go_enter Try.func57, Try.ntmps57
  go_wp2_with (go_at_call 84; with_reducible refine L.mono ?_; rintro e w1 ⟨rfl, hm1, ht1⟩)
  go_end0
  exact ⟨rfl, hm1, ht1⟩
set_option maxHeartbeats 1000000 in
theorem set_reg (g db cap : Nat) (vi vo vc : Value) (s : St) (code n v m : Int) (c0 : 9 ≤ code) (c1 : code ≤ 16) (v0 : 0 ≤ v) (v1 : v ≤ 65535) (w : World) (h : Sits w g db cap vi vo vc s) :
    Calls Try.prog 57 #[at0 g, .int .i64 code, .int .u16 n, .int .u16 v, .int .u64 m] w fun e w' => e = .returned (.tuple #[]) ∧ Mach w' g (setR s.r (code - 9).toNat v) vi vo vc (.slice (some ⟨db, 0, none⟩) 65536 cap) ∧ Turn (one g) w w' := by
  obtain ⟨k0, k1, k2, k3, k4, k5, k6, k7, _, _, _, _, _, _, _, _, _, _, _, _⟩ := mach_cells h.m
  have hm := Lib.hid h.m
  have f0 := h.m.frozen 0
  have f1 := h.m.frozen 1
  have f2 := h.m.frozen 2
  have f3 := h.m.frozen 3
  have f4 := h.m.frozen 4
  have f5 := h.m.frozen 5
  have f6 := h.m.frozen 6
  have f7 := h.m.frozen 7
  clear h
  have hc : code = 9 ∨ code = 10 ∨ code = 11 ∨ code = 12 ∨ code = 13 ∨ code = 14 ∨ code = 15 ∨ code = 16 := by omega
  rcases hc with rfl | rfl | rfl | rfl | rfl | rfl | rfl | rfl <;> clear c0 c1
  · go_enter Try.func57, Try.ntmps57
    go_wp2
    go_end0
    exact ⟨rfl, own_eq (Own.set hm.out 0 _) (by simp [cellsC, setR, upd]), .setCell (S := one g) (.inl rfl) (.refl _ _)⟩
  · go_enter Try.func57, Try.ntmps57
    go_wp2
    go_end0
    exact ⟨rfl, own_eq (Own.set hm.out 1 _) (by simp [cellsC, setR, upd]), .setCell (S := one g) (.inl rfl) (.refl _ _)⟩
  · go_enter Try.func57, Try.ntmps57
    go_wp2
    go_end0
    exact ⟨rfl, own_eq (Own.set hm.out 2 _) (by simp [cellsC, setR, upd]), .setCell (S := one g) (.inl rfl) (.refl _ _)⟩
  · go_enter Try.func57, Try.ntmps57
    go_wp2
    go_end0
    exact ⟨rfl, own_eq (Own.set hm.out 3 _) (by simp [cellsC, setR, upd]), .setCell (S := one g) (.inl rfl) (.refl _ _)⟩
  · go_enter Try.func57, Try.ntmps57
    go_wp2
    go_end0
    exact ⟨rfl, own_eq (Own.set hm.out 4 _) (by simp [cellsC, setR, upd]), .setCell (S := one g) (.inl rfl) (.refl _ _)⟩
  · go_enter Try.func57, Try.ntmps57
    go_wp2
    go_end0
    exact ⟨rfl, own_eq (Own.set hm.out 5 _) (by simp [cellsC, setR, upd]), .setCell (S := one g) (.inl rfl) (.refl _ _)⟩
  · go_enter Try.func57, Try.ntmps57
    go_wp2
    go_end0
    exact ⟨rfl, own_eq (Own.set hm.out 6 _) (by simp [cellsC, setR, upd]), .setCell (S := one g) (.inl rfl) (.refl _ _)⟩
  · go_enter Try.func57, Try.ntmps57
    go_wp2
    go_end0
    exact ⟨rfl, own_eq (Own.set hm.out 7 _) (by simp [cellsC, setR, upd]), .setCell (S := one g) (.inl rfl) (.refl _ _)⟩

set_option maxHeartbeats 1000000 in
theorem set_mem8 (g db cap : Nat) (vi vo vc : Value) (s : St) (code n v : Int) (c0 : 17 ≤ code) (c1 : code ≤ 19) (n0 : 0 ≤ n) (n1 : n ≤ 65535) (v0 : 0 ≤ v) (v1 : v ≤ 65535) (w : World) (h : Sits w g db cap vi vo vc s) :
    Calls Try.prog 57 #[at0 g, .int .i64 code, .int .u16 n, .int .u16 v, .int .u64 8] w fun e w' => e = .returned (.tuple #[]) ∧ Mem w' db (upd s.D (addrL s.r code n).toNat (v % 256)) ∧ Turn (one db) w w' := by
  have b := addrL_lo h.ok.r code n n0 n1
  have A := address_any g s.r _ _ _ _ code n w h.m
  have hw : IntKind.u8.wrap v = v % 256 := by simp [IntKind.wrap, IntKind.bits, IntKind.signed]
  have hb : Below w.heap.size w (w.alloc (.cells #[.int .u8 (v % 256)] 5)) := balloc (Below.refl _ _) _
  have on := own_new w #[.int .u8 (v % 256)] 5
  have h1 := h.below hb
  obtain ⟨a, ha⟩ := Int.eq_ofNat_of_zero_le b.1
  rw [ha] at A b ⊢
  have L : Calls Try.prog 85 #[at0 g, .int .u16 a, .slice (some ⟨w.heap.size, 0, none⟩) 1 1] (w.alloc (.cells #[.int .u8 (v % 256)] 5)) fun e w' => e = .returned (.tuple #[]) ∧ Mem w' db (upd s.D a (v % 256)) ∧ Turn (one db) w w' := by
    refine (store_1 g s.r _ _ _ db cap a w.heap.size (v % 256) s.D (by omega) h.cap _ h1.m h1.d (on.cell 0)).mono ?_
    rintro e w' ⟨rfl, rfl⟩
    exact ⟨rfl, h1.d.set a (by omega) (v % 256), .setCell (S := one db) (.inl rfl) (.alloc (.refl _ _) _)⟩
  have hlt : db < w.heap.size := h.d.lt
  clear ha h h1 on
  go_enter Try.func57, Try.ntmps57
  go_wp2_with (first
    | (go_at_call 83; with_reducible refine A.mono ?_; rintro e w1 ⟨rfl, rfl⟩)
    | (go_at_call 85; with_reducible refine L.mono ?_; rintro e w2 ⟨rfl, M, T⟩))
  go_end0
  exact ⟨rfl, M, T⟩
set_option maxHeartbeats 1000000 in
theorem set_mem16 (g db cap : Nat) (vi vo vc : Value) (s : St) (code n v : Int) (c0 : 17 ≤ code) (c1 : code ≤ 19) (n0 : 0 ≤ n) (n1 : n ≤ 65535) (v0 : 0 ≤ v) (v1 : v ≤ 65535) (w : World) (h : Sits w g db cap vi vo vc s) :
    Calls Try.prog 57 #[at0 g, .int .i64 code, .int .u16 n, .int .u16 v, .int .u64 16] w fun e w' => e = .returned (.tuple #[]) ∧ Mem w' db (putW s.D (addrL s.r code n).toNat v) ∧ Turn (one db) w w' := by
  have b := addrL_lo h.ok.r code n n0 n1
  have A := address_any g s.r _ _ _ _ code n w h.m
  have hw : IntKind.u8.wrap v = v % 256 := by simp [IntKind.wrap, IntKind.bits, IntKind.signed]
  have hb : Below w.heap.size w (w.alloc (.cells #[.int .u8 (v % 256), .int .u8 (v / 256)] 5)) := balloc (Below.refl _ _) _
  have on := own_new w #[.int .u8 (v % 256), .int .u8 (v / 256)] 5
  have h1 := h.below hb
  obtain ⟨a, ha⟩ := Int.eq_ofNat_of_zero_le b.1
  rw [ha] at A b ⊢
  have hlt : db < w.heap.size := h.d.lt
  have L : Calls Try.prog 85 #[at0 g, .int .u16 a, .slice (some ⟨w.heap.size, 0, none⟩) 2 2] (w.alloc (.cells #[.int .u8 (v % 256), .int .u8 (v / 256)] 5)) fun e w' => e = .returned (.tuple #[]) ∧ Mem w' db (putW s.D a v) ∧ Turn (one db) w w' := by
    refine (store2_any g s.r _ _ _ db cap a w.heap.size (v % 256) (v / 256) s.D (by omega) h.cap _ h1.m h1.d (on.cell 0) (on.cell 1) (by omega) h.ne).mono ?_
    rintro e w' ⟨rfl, rfl⟩
    exact ⟨rfl, (h1.d.set a (by omega) (v % 256)).set (nextA a) (by unfold nextA; omega) (v / 256), .setCell (S := one db) (.inl rfl) (.setCell (S := one db) (.inl rfl) (.alloc (.refl _ _) _))⟩
  clear ha h h1 on
  go_enter Try.func57, Try.ntmps57
  go_wp2_with (first
    | (go_at_call 83; with_reducible refine A.mono ?_; rintro e w1 ⟨rfl, rfl⟩)
    | (go_at_call 85; with_reducible refine L.mono ?_; rintro e w2 ⟨rfl, M, T⟩))
  go_end0
  exact ⟨rfl, M, T⟩

theorem Sits.regs {w w1 : World} {g db cap : Nat} {vi vo vc vi' vo' : Value} {s : St} {r' : Rg} (h : Sits w g db cap vi vo vc s) (m : Mach w1 g r' vi' vo' vc (.slice (some ⟨db, 0, none⟩) 65536 cap)) (ok : r'.Ok) (T : Turn (one g) w w1) : Sits w1 g db cap vi' vo' vc { s with r := r' } :=
  ⟨m, h.d.turn T (fun q => h.ne q.symm), h.ne, h.cap, ⟨ok, h.ok.D⟩⟩
theorem Sits.data {w w1 : World} {g db cap : Nat} {vi vo vc : Value} {s : St} {D' : Dat} (h : Sits w g db cap vi vo vc s) (d : Mem w1 db D') (ok : D'.Ok) (T : Turn (one db) w w1) : Sits w1 g db cap vi vo vc { s with D := D' } :=
  ⟨h.m.turn T (fun q => h.ne q), d, h.ne, h.cap, ⟨h.ok.r, ok⟩⟩
theorem turn_g {w w1 : World} {g db : Nat} (T : Turn (one g) w w1) : Turn (two g db) w w1 := T.mono fun _ q => .inl q
theorem turn_d {w w1 : World} {g db : Nat} (T : Turn (one db) w w1) : Turn (two g db) w w1 := T.mono fun _ q => .inr q
/-- A call behind which the machine is in another state. -/
abbrev Goes (g db cap : Nat) (vi vo vc : Value) (w : World) (v : Value) (s' : St) (e : Ending) (w' : World) : Prop := e = .returned v ∧ Sits w' g db cap vi vo vc s' ∧ Turn (two g db) w w'
theorem set_any (g db cap : Nat) (vi vo vc : Value) (s : St) (code n v m : Int) (hm : m = 8 ∨ m = 16) (c0 : 1 ≤ code) (c1 : code ≤ 19) (n0 : 0 ≤ n) (n1 : n ≤ 65535) (v0 : 0 ≤ v) (v1 : v ≤ 65535) (w : World) (h : Sits w g db cap vi vo vc s) :
    Calls Try.prog 57 #[at0 g, .int .i64 code, .int .u16 n, .int .u16 v, .int .u64 m] w (Goes g db cap vi vo vc w (.tuple #[]) (setL s code n v m)) := by
  have ok := setL_ok h.ok code n v m v0 v1
  unfold setL at ok ⊢
  split
  · rw [if_pos (by assumption)] at ok
    refine (set_low g db cap vi vo vc s code n v m c0 (by assumption) v0 v1 w h).mono ?_
    rintro e w' ⟨rfl, M, T⟩
    exact ⟨rfl, h.regs M ok.r T, turn_g T⟩
  rw [if_neg (by assumption)] at ok
  split
  · rw [if_pos (by assumption)] at ok
    refine (set_reg g db cap vi vo vc s code n v m (by omega) (by assumption) v0 v1 w h).mono ?_
    rintro e w' ⟨rfl, M, T⟩
    exact ⟨rfl, h.regs M ok.r T, turn_g T⟩
  rw [if_neg (by assumption)] at ok
  rcases hm with rfl | rfl
  · refine (set_mem8 g db cap vi vo vc s code n v (by omega) c1 n0 n1 v0 v1 w h).mono ?_
    rintro e w' ⟨rfl, M, T⟩
    exact ⟨rfl, h.data M ok.D T, turn_d T⟩
  · refine (set_mem16 g db cap vi vo vc s code n v (by omega) c1 n0 n1 v0 v1 w h).mono ?_
    rintro e w' ⟨rfl, M, T⟩
    exact ⟨rfl, h.data M ok.D T, turn_d T⟩

end Go.Proofs.Ytbhkndblolegaaa
