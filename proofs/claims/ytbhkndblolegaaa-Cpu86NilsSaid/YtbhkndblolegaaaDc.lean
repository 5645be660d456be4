/- The walks of cpu86's load and store. The walk of pidginlaw11.Memory: a slice of bytes by places comes to 65536 bytes. The walks of slices.Clone: of bytes, and of none of the outputs. -/
import Derived.Test.YtbhkndblolegaaaKa
import Derived.Test.YtbhkndblolegaaaPb
import Derived.Test.YtbhkndblolegaaaPa
import Derived.Deep.OwnRows
import Derived.Laws.AppendOwn
namespace Go.Proofs.Ytbhkndblolegaaa
open Go.RowKit
set_option linter.unusedVariables false
set_option linter.unusedSimpArgs false

/-- A block whose first 65536 cells are bytes. -/
structure Mem (w : World) (db : Nat) (D : Dat) : Prop where
  cell : ∀ j, j < 65536 → w.cell? ⟨db, j, none⟩ = some (.int .u8 (D j))
  free : ∀ j, j < 65536 → w.frozen? ⟨db, j, none⟩ = false
theorem Mem.lt {w : World} {db : Nat} {D : Dat} (h : Mem w db D) : db < w.heap.size := World.block_lt_of_cell? w _ (h.cell 0 (by decide))
theorem Mem.turn {S : Nat → Prop} {w w1 : World} {db : Nat} {D : Dat} (h : Mem w db D) (k : Turn S w w1) (hS : ¬ S db) : Mem w1 db D :=
  ⟨fun j hj => cell_turn (h.cell j hj) k hS, fun j hj => frozen_turn (h.cell j hj) (h.free j hj) k hS⟩
theorem Mem.below {w w1 : World} {db : Nat} {D : Dat} (h : Mem w db D) (k : Below w.heap.size w w1) : Mem w1 db D :=
  ⟨fun j hj => cell_below (h.cell j hj) k, fun j hj => frozen_below (h.cell j hj) (h.free j hj) k⟩
theorem Mem.drewN {w : World} {db : Nat} {D : Dat} (h : Mem w db D) (n : Nat) : Mem (w.drewN n) db D := ⟨h.cell, h.free⟩
theorem Mem.set {w : World} {db : Nat} {D : Dat} (h : Mem w db D) (a : Nat) (ha : a < 65536) (v : Int) : Mem (w.setCell ⟨db, a, none⟩ (.int .u8 v)) db (upd D a v) := by
  refine ⟨fun j hj => ?_, fun j hj => ?_⟩
  · by_cases e : j = a
    · subst e
      rw [World.cell?_setCell_same _ _ _ (h.cell j hj)]
      simp [upd]
    · rw [World.cell?_setCell_other _ _ _ _ (by intro h; cases h; exact e rfl), h.cell j hj]
      simp [upd, e]
  · rw [World.frozen?_setCell]; exact h.free j hj

set_option maxHeartbeats 1000000 in
theorem load_8 (g : Nat) (r : Rg) (vi vo vc : Value) (db cap a : Nat) (D : Dat) (hD : D.Ok) (ha : (a : Int) < 65536) (hcap : (65536 : Int) ≤ cap) (w : World) (hm : Mach w g r vi vo vc (.slice (some ⟨db, 0, none⟩) 65536 cap)) (hd : Mem w db D) :
    Calls Try.prog 82 #[at0 g, .int .u16 a, .int .u64 8] w fun e w' => e = .returned (.int .u16 (D a)) ∧ w' = w := by
  have kd := (mach_cells hm).vd
  have ka := hd.cell a (by omega)
  have b := hD a
  clear hm hd hD
  go_enter Try.func82, Try.ntmps82
  go_wp2
  go_ret
  exact ⟨rfl, rfl⟩
set_option maxHeartbeats 1000000 in
theorem load_16 (g : Nat) (r : Rg) (vi vo vc : Value) (db cap a : Nat) (D : Dat) (hD : D.Ok) (ha : (a : Int) < 65535) (hcap : (65536 : Int) ≤ cap) (w : World) (hm : Mach w g r vi vo vc (.slice (some ⟨db, 0, none⟩) 65536 cap)) (hd : Mem w db D) :
    Calls Try.prog 82 #[at0 g, .int .u16 a, .int .u64 16] w fun e w' => e = .returned (.int .u16 (D a + D (a + 1) * 256)) ∧ ∃ n, w' = w.drewN n := by
  have kd := (mach_cells hm).vd
  have ka := hd.cell a (by omega)
  have kb := hd.cell (a + 1) (by omega)
  have b1 := hD a
  have b2 := hD (a + 1)
  have ho := or16 (D a) (D (a + 1)) b1.1 b1.2 b2.1 b2.2
  clear hm hd hD
  go_enter Try.func82, Try.ntmps82
  go_wp2_with fail
  go_quiet (fail)
  go_wp2
  go_ret
  exact ⟨rfl, _, rfl⟩

set_option maxHeartbeats 1000000 in
theorem load_16w (g : Nat) (r : Rg) (vi vo vc : Value) (db cap : Nat) (D : Dat) (hD : D.Ok) (hcap : (65536 : Int) ≤ cap) (w : World) (hm : Mach w g r vi vo vc (.slice (some ⟨db, 0, none⟩) 65536 cap)) (hd : Mem w db D) :
    Calls Try.prog 82 #[at0 g, .int .u16 65535, .int .u64 16] w fun e w' => e = .returned (.int .u16 (D 65535 + D 0 * 256)) ∧ ∃ n, w' = w.drewN n := by
  have kd := (mach_cells hm).vd
  have ka := hd.cell 65535 (by omega)
  have kb := hd.cell 0 (by omega)
  have b1 := hD 65535
  have b2 := hD 0
  have ho := or16 (D 65535) (D 0) b1.1 b1.2 b2.1 b2.2
  have hw : IntKind.u16.wrap 65536 = 0 := by decide
  have hw2 : IntKind.u16.wrap (65535 + 1) = 0 := by decide
  clear hm hd hD
  go_enter Try.func82, Try.ntmps82
  go_wp2_with fail
  go_quiet (fail)
  go_wp2
  go_ret
  exact ⟨rfl, _, rfl⟩
theorem load_any (g : Nat) (r : Rg) (vi vo vc : Value) (db cap a : Nat) (D : Dat) (hD : D.Ok) (m : Int) (hmm : m = 8 ∨ m = 16) (ha : a < 65536) (hcap : (65536 : Int) ≤ cap) (w : World) (hm : Mach w g r vi vo vc (.slice (some ⟨db, 0, none⟩) 65536 cap)) (hd : Mem w db D) :
    Calls Try.prog 82 #[at0 g, .int .u16 a, .int .u64 m] w fun e w' => e = .returned (.int .u16 (loadL D a m)) ∧ ∃ n, w' = w.drewN n := by
  rcases hmm with rfl | rfl
  · refine (load_8 g r vi vo vc db cap a D hD (by omega) hcap w hm hd).mono ?_
    rintro e w' ⟨rfl, rfl⟩
    exact ⟨rfl, 0, rfl⟩
  · by_cases h : a = 65535
    · subst h
      exact load_16w g r vi vo vc db cap D hD hcap w hm hd
    · have e : loadL D a 16 = D a + D (a + 1) * 256 := by
        unfold loadL wordL nextA
        rw [if_neg (by decide), Nat.mod_eq_of_lt (by omega)]
      rw [e]
      exact load_16 g r vi vo vc db cap a D hD (by omega) hcap w hm hd

set_option maxHeartbeats 1000000 in
theorem store_1 (g : Nat) (r : Rg) (vi vo vc : Value) (db cap a nb : Nat) (x : Int) (D : Dat) (ha : (a : Int) < 65536) (hcap : (65536 : Int) ≤ cap) (w : World) (hm : Mach w g r vi vo vc (.slice (some ⟨db, 0, none⟩) 65536 cap)) (hd : Mem w db D)
    (kx : w.cell? ⟨nb, 0, none⟩ = some (.int .u8 x)) :
    Calls Try.prog 85 #[at0 g, .int .u16 a, .slice (some ⟨nb, 0, none⟩) 1 1] w fun e w' => e = .returned (.tuple #[]) ∧ w' = w.setCell ⟨db, a, none⟩ (.int .u8 x) := by
  have kd := (mach_cells hm).vd
  have ka := hd.cell a (by omega)
  have kf := hd.free a (by omega)
  clear hm hd
  go_enter Try.func85, Try.ntmps85
  go_wp2
  refine wp_loop_rounds 2 ?_
  simp only [rounds_succ]
  go_wp2
  simp only [rounds_succ]
  go_wp2
  go_end0
  exact ⟨rfl, rfl⟩
set_option maxHeartbeats 1000000 in
theorem store_2 (g : Nat) (r : Rg) (vi vo vc : Value) (db cap a nb : Nat) (x y : Int) (D : Dat) (ha : (a : Int) < 65535) (hcap : (65536 : Int) ≤ cap) (w : World) (hm : Mach w g r vi vo vc (.slice (some ⟨db, 0, none⟩) 65536 cap)) (hd : Mem w db D)
    (kx : w.cell? ⟨nb, 0, none⟩ = some (.int .u8 x)) (ky : w.cell? ⟨nb, 1, none⟩ = some (.int .u8 y)) (h1 : ¬ nb = db) (h2 : ¬ g = db) :
    Calls Try.prog 85 #[at0 g, .int .u16 a, .slice (some ⟨nb, 0, none⟩) 2 2] w fun e w' => e = .returned (.tuple #[]) ∧ w' = (w.setCell ⟨db, a, none⟩ (.int .u8 x)).setCell ⟨db, a + 1, none⟩ (.int .u8 y) := by
  have kd := (mach_cells hm).vd
  have ka := hd.cell a (by omega)
  have kf := hd.free a (by omega)
  have kb := hd.cell (a + 1) (by omega)
  have kg := hd.free (a + 1) (by omega)
  have h3 : ¬ db = nb := fun h => h1 h.symm
  have h4 : ¬ db = g := fun h => h2 h.symm
  clear hm hd
  go_enter Try.func85, Try.ntmps85
  go_wp2
  refine wp_loop_rounds 3 ?_
  simp only [rounds_succ]
  go_wp2
  simp only [rounds_succ]
  go_wp2
  simp only [rounds_succ]
  go_wp2
  go_end0
  exact ⟨rfl, rfl⟩
set_option maxHeartbeats 1000000 in
theorem store_2w (g : Nat) (r : Rg) (vi vo vc : Value) (db cap nb : Nat) (x y : Int) (D : Dat) (hcap : (65536 : Int) ≤ cap) (w : World) (hm : Mach w g r vi vo vc (.slice (some ⟨db, 0, none⟩) 65536 cap)) (hd : Mem w db D)
    (kx : w.cell? ⟨nb, 0, none⟩ = some (.int .u8 x)) (ky : w.cell? ⟨nb, 1, none⟩ = some (.int .u8 y)) (h1 : ¬ nb = db) (h2 : ¬ g = db) :
    Calls Try.prog 85 #[at0 g, .int .u16 65535, .slice (some ⟨nb, 0, none⟩) 2 2] w fun e w' => e = .returned (.tuple #[]) ∧ w' = (w.setCell ⟨db, 65535, none⟩ (.int .u8 x)).setCell ⟨db, 0, none⟩ (.int .u8 y) := by
  have kd := (mach_cells hm).vd
  have ka := hd.cell 65535 (by omega)
  have kf := hd.free 65535 (by omega)
  have kb := hd.cell 0 (by omega)
  have kg := hd.free 0 (by omega)
  have h3 : ¬ db = nb := fun h => h1 h.symm
  have h4 : ¬ db = g := fun h => h2 h.symm
  have hw : IntKind.u16.wrap 65536 = 0 := by decide
  have hw2 : IntKind.u16.wrap (65535 + 1) = 0 := by decide
  clear hm hd
  go_enter Try.func85, Try.ntmps85
  go_wp2
  refine wp_loop_rounds 3 ?_
  simp only [rounds_succ]
  go_wp2
  simp only [rounds_succ]
  go_wp2
  simp only [rounds_succ]
  go_wp2
  go_end0
  exact ⟨rfl, rfl⟩
theorem store2_any (g : Nat) (r : Rg) (vi vo vc : Value) (db cap a nb : Nat) (x y : Int) (D : Dat) (ha : a < 65536) (hcap : (65536 : Int) ≤ cap) (w : World) (hm : Mach w g r vi vo vc (.slice (some ⟨db, 0, none⟩) 65536 cap)) (hd : Mem w db D)
    (kx : w.cell? ⟨nb, 0, none⟩ = some (.int .u8 x)) (ky : w.cell? ⟨nb, 1, none⟩ = some (.int .u8 y)) (h1 : ¬ nb = db) (h2 : ¬ g = db) :
    Calls Try.prog 85 #[at0 g, .int .u16 a, .slice (some ⟨nb, 0, none⟩) 2 2] w fun e w' => e = .returned (.tuple #[]) ∧ w' = (w.setCell ⟨db, a, none⟩ (.int .u8 x)).setCell ⟨db, nextA a, none⟩ (.int .u8 y) := by
  by_cases h : a = 65535
  · subst h
    exact store_2w g r vi vo vc db cap nb x y D hcap w hm hd kx ky h1 h2
  · have e : nextA a = a + 1 := by unfold nextA; rw [Nat.mod_eq_of_lt (by omega)]
    rw [e]
    exact store_2 g r vi vo vc db cap a nb x y D (by omega) hcap w hm hd kx ky h1 h2

end Go.Proofs.Ytbhkndblolegaaa

namespace Go.Proofs.Ytbhkndblolegaaa
open Go.RowKit
set_option linter.unusedVariables false
set_option linter.unusedSimpArgs false

/-- Bytes by places as they lie in memory. -/
def SeesP (w : World) (b off : Nat) (l : Plc) : Prop := ∀ j, j < l.length → w.cell? ⟨b, off + j * 2, none⟩ = some (.int .u16 (l.getD j (0, 0)).1) ∧ w.cell? ⟨b, off + j * 2 + 1, none⟩ = some (.int .u8 (l.getD j (0, 0)).2)
theorem infoU8 : (Try.prog.info? 5).map (fun i => (i.zero, i.size, i.bytes)) = some (some (.int .u8 0), 1, 1) := by kernel_rfl

theorem mem_new : ∃ M : Array Value, (∀ w : World, (Instr.makeSlice 26 (.int .i64 65536) (.int .i64 65536)).run Try.prog w = .ok (.slice (some ⟨w.heap.size, 0, none⟩) 65536 65536) (w.alloc (.cells M 5))) ∧ ∀ w : World, Mem (w.alloc (.cells M 5)) w.heap.size (memL []) := by
  refine ⟨madeCells #[.int .u8 0] 65536, fun w => run_make_row' (P := Try.prog) 26 5 (.int .u8 0) 1 Try.underlying26 infoU8 rfl .i64 .i64 65536 (by decide) (by decide) w, fun w => ?_⟩
  have o := own_new w (madeCells #[.int .u8 0] 65536) 5
  have e : ∀ j, j < 65536 → (madeCells #[Value.int .u8 0] 65536)[j]? = some (.int .u8 0) := by
    intro j hj
    rw [← Array.getElem?_toList, toList_madeCells_one, List.getElem?_replicate, if_pos hj]
  generalize madeCells #[Value.int .u8 0] 65536 = M at *
  exact ⟨fun j hj => (o.cell j).trans (e j hj), fun j _ => o.frozen j⟩

set_option maxRecDepth 100000 in
theorem memory_any (b off cap : Nat) (l : Plc) (hl : l.Ok) (hlen : (l.length : Int) ≤ 1000000) (w : World) (hs : SeesP w b off l) :
    Calls Try.prog 39 #[.slice (some ⟨b, off, none⟩) l.length cap] w fun e w' => ∃ g, e = .returned (.slice (some ⟨g, 0, none⟩) 65536 65536) ∧ w.heap.size ≤ g ∧ Mem w' g (memL l) ∧ Below w.heap.size w w' := by
  obtain ⟨n, hn⟩ : ∃ n, n = l.length := ⟨_, rfl⟩
  have hn' := Lib.hid hn
  unfold SeesP at hs
  rw [← hn] at hlen hs ⊢
  clear hn
  obtain ⟨M, hmk, hM⟩ := mem_new
  have hM' := hM w
  clear hM
  have hlt : w.heap.size < (w.alloc (.cells M 5)).heap.size := hM'.lt
  go_enter Try.func39, Try.ntmps39
  go_wp2
  go_loopw [4] (fun i wr => ∃ k : Nat, k ≤ n ∧ i = .int .i64 k ∧ Below w.heap.size w wr ∧ Mem wr w.heap.size (memL (l.take k))) (fun i _ => n - (intOf i).toNat)
  case atStart => exact ⟨0, Nat.zero_le _, rfl, balloc (Below.refl _ _) _, by simpa using hM'⟩
  case round =>
    obtain ⟨k, hk, rfl, hb, hm⟩ := hrel
    by_cases hk2 : k < n
    · have hk3 : k < l.length := by have := hn'.out; omega
      have c1 := cell_below (hs k hk2).1 hb
      have c2 := cell_below (hs k hk2).2 hb
      have bp := plc_getD hl k hk3
      have et := memL_take l k hk3
      have hmset := hm.set (l.getD k (0, 0)).1.toNat (by omega) (l.getD k (0, 0)).2
      rw [← et] at hmset
      generalize l.getD k (0, 0) = p at *
      obtain ⟨x, y⟩ := p
      simp only at c1 c2 bp hmset
      obtain ⟨a, rfl⟩ := Int.eq_ofNat_of_zero_le bp.1.1
      have ha : (a : Int) < 65536 := by omega
      have c3 := hm.cell a (by omega)
      have f3 := hm.free a (by omega)
      clear et hm hM'
      have hs' := Lib.hid hs
      clear hs
      go_wp2
      go_region
      go_wp2_with fail
      go_roundw
      case rel => exact ⟨k + 1, by omega, by go_num, bdrew (bset (Nat.le_refl _) hb), hmset.drewN 1⟩
      case measure => simp [intOf]; omega
    · go_wp2
      go_ret
      have : l.take k = l := by rw [List.take_of_length_le]; have := hn'.out; omega
      rw [this] at hm
      exact ⟨_, rfl, Nat.le_refl _, hm, hb⟩

/-- Of none. -/
theorem memory_none (p : Option Addr) (cap : Nat) (w : World) :
    Calls Try.prog 39 #[.slice p 0 cap] w fun e w' => ∃ g, e = .returned (.slice (some ⟨g, 0, none⟩) 65536 65536) ∧ w.heap.size ≤ g ∧ Mem w' g (memL []) ∧ Below w.heap.size w w' := by
  obtain ⟨M, hmk, hM⟩ := mem_new
  have hM' := hM w
  clear hM
  go_enter Try.func39, Try.ntmps39
  go_wp2
  refine wp_loop_rounds 1 ?_
  simp only [rounds_succ]
  go_wp2
  go_ret
  exact ⟨_, rfl, Nat.le_refl _, hM', balloc (Below.refl _ _) _⟩

/-- A slice of bytes by places. -/
def LiesP (w : World) (v : Value) (l : Plc) : Prop := ∃ p cap, v = .slice p l.length cap ∧ (p = none → l.length = 0 ∧ cap = 0) ∧ (0 < l.length → ∃ b off, p = some ⟨b, off, none⟩ ∧ SeesP w b off l)
theorem SeesP.below {w w1 : World} {b off : Nat} {l : Plc} (h : SeesP w b off l) (k : Below w.heap.size w w1) : SeesP w1 b off l := fun j hj => ⟨cell_below (h j hj).1 k, cell_below (h j hj).2 k⟩
theorem LiesP.below {w w1 : World} {v : Value} {l : Plc} (h : LiesP w v l) (k : Below w.heap.size w w1) : LiesP w1 v l := by
  obtain ⟨p, cap, rfl, hn, hs⟩ := h
  refine ⟨p, cap, rfl, hn, fun h0 => ?_⟩
  obtain ⟨b, off, rfl, hs2⟩ := hs h0
  exact ⟨b, off, rfl, hs2.below k⟩
theorem memory_lies (v : Value) (l : Plc) (hl : l.Ok) (hlen : (l.length : Int) ≤ 1000000) (w : World) (hs : LiesP w v l) :
    Calls Try.prog 39 #[v] w fun e w' => ∃ g, e = .returned (.slice (some ⟨g, 0, none⟩) 65536 65536) ∧ w.heap.size ≤ g ∧ Mem w' g (memL l) ∧ Below w.heap.size w w' := by
  obtain ⟨p, cap, rfl, _, hs⟩ := hs
  by_cases h0 : 0 < l.length
  · obtain ⟨b, off, rfl, hs2⟩ := hs h0
    exact memory_any b off cap l hl hlen w hs2
  · obtain rfl : l = [] := List.eq_nil_of_length_eq_zero (by omega)
    exact memory_none p cap w

end Go.Proofs.Ytbhkndblolegaaa

namespace Go.Proofs.Ytbhkndblolegaaa
open Go.RowKit
set_option linter.unusedVariables false
set_option linter.unusedSimpArgs false

/-- Bytes as they lie in memory, from any address. -/
def LiesB (w : World) (v : Value) (zs : List Int) : Prop := ∃ p cap, v = .slice p zs.length cap ∧ (p = none → zs.length = 0 ∧ cap = 0) ∧ ∀ a, p = some a → ∀ j, j < zs.length → w.cell? (a.add j) = some (.int .u8 (zs.getD j 0))
theorem LiesB.below {w w1 : World} {v : Value} {zs : List Int} (h : LiesB w v zs) (k : Below w.heap.size w w1) : LiesB w1 v zs := by
  obtain ⟨p, cap, rfl, hn, hs⟩ := h
  exact ⟨p, cap, rfl, hn, fun a ha j hj => cell_below (hs a ha j hj) k⟩
theorem LiesB.setOther {w : World} {p : Option Addr} {n cap : Nat} {zs : List Int} (h : LiesB w (.slice p n cap) zs) {x : Addr} (v : Value) (hx : ∀ a, p = some a → ¬ a.block = x.block) : LiesB (w.setCell x v) (.slice p n cap) zs := by
  obtain ⟨p2, cap2, e, hn, hs⟩ := h
  cases e
  refine ⟨p, cap, rfl, hn, fun a ha j hj => ?_⟩
  have k := Below.heap_setCell w x v (a.add j).block (by rw [show (a.add j).block = a.block by unfold Addr.add; split <;> rfl]; exact hx a ha)
  have := hs a ha j hj
  unfold World.cell? at this ⊢
  rw [k]; exact this
theorem q26 : ∀ (w : World) (a : Option Addr) (n c n' c' : Nat), (binOp .eql 26 (.slice a n c) (.slice none n' c')).run Try.prog w = .ok (.bool a.isNone) w := fun w a n c n' c' => Lib.run_eql_slice_nil w _ _ a n c n' c' Try.underlying26

set_option maxHeartbeats 2000000 in
set_option maxRecDepth 100000 in
theorem clone_some (a : Addr) (cap : Nat) (zs : List Int) (hlen : zs.length ≤ 1000000) (w : World) (hc : ∀ j, j < zs.length → w.cell? (a.add j) = some (.int .u8 (zs.getD j 0))) :
    Calls Try.prog 46 #[.slice (some a) zs.length cap] w fun e w' => ∃ g cp, e = .returned (.slice (some ⟨g, 0, none⟩) zs.length cp) ∧ w.heap.size ≤ g ∧ zs.length ≤ cp ∧ (∀ j, j < zs.length → w'.cell? ⟨g, j, none⟩ = some (.int .u8 (zs.getD j 0))) ∧ (∀ j, w'.frozen? ⟨g, j, none⟩ = false) ∧ g < w'.heap.size ∧ Below w.heap.size w w' := by
  obtain ⟨i0, hi, hz0, hz1, hz2⟩ := info_parts infoU8
  have q := q26
  obtain ⟨n, hn⟩ : ∃ n, n = zs.length := ⟨_, rfl⟩
  have hc' := Lib.hid hc
  rw [← hn] at hlen ⊢
  have hn' := Lib.hid hn
  clear hc hn
  go_enter Try.func46, Try.ntmps46
  go_wp2_with (at_builtin; refine wpList_append_own _ rfl _ _ 26 rfl w.heap.size 5 i0 (.int .u8 0) 1 1 Try.underlying26 hi hz0 hz1 hz2 rfl (by decide) _ _ _ rfl (World.ownsRow_made w #[] 0 (Nat.le_refl _) (Nat.zero_le _) rfl) a n cap (zs.map (Value.int .u8)) rfl ?qc1 ?qc2 ?qc3 ?qc4 ?qc5 ?qc6 ?_)
  case qc1 => simp [hn'.out]
  case qc2 =>
    intro j u hj
    have hjn : j < zs.length := by
      have := (List.getElem?_eq_some_iff.1 hj).1
      simpa using this
    refine Lib.cell?_alloc_some _ ?_
    rw [hc'.out j hjn]
    have e : (zs.map (Value.int .u8))[j]? = some (Value.int .u8 (zs.getD j 0)) := by simp [List.getD, hjn]
    rw [e] at hj
    exact hj
  case qc3 => intro u hu; obtain ⟨x, _, rfl⟩ := List.mem_map.1 hu; rfl
  case qc4 => unfold maxLen; omega
  case qc5 => omega
  case qc6 => simp
  intro v' w1 hown hgrow hnil
  have hb : Below w.heap.size w w1 := ((Below.refl _ w).alloc (Nat.le_refl _) _).grown hgrow (by simp) (by intro k hk; simp [Value.ownBlock] at hk; omega)
  have hlt := hown.lt
  obtain ⟨g, cp, rfl, hg, hcp, hcells, hfr⟩ : ∃ g cp, v' = .slice (some ⟨g, 0, none⟩) n cp ∧ w.heap.size ≤ g ∧ n ≤ cp ∧ (∀ j, j < n → w1.cell? ⟨g, j, none⟩ = some (.int .u8 (zs.getD j 0))) ∧ ∀ j, w1.frozen? ⟨g, j, none⟩ = false := by
    rcases hown.2 with ⟨h0, _⟩ | ⟨g, cp, cur, rfl, h1, h2, h3, h4, h5, h6⟩
    · exact absurd h0 hnil
    · refine ⟨g, cp, rfl, h1, h3, fun j hj => ?_, fun j => World.ownsRow.frozenAt hown j⟩
      rw [World.ownsRow.cellAt hown j (by omega)]
      have hjn : j < zs.length := by have := hn'.out; omega
      simp [List.getD, hjn]
  have hlt' := (hlt g rfl).2
  clear hown hgrow hnil hlt
  go_wp2
  go_ret
  exact ⟨g, cp, rfl, hg, hcp, hcells, hfr, hlt', hb⟩

theorem clone_nil (n c : Nat) (w : World) : Calls Try.prog 46 #[.slice none n c] w fun e w' => e = .returned (.slice none 0 0) ∧ w' = w := by
  have q := q26
  go_enter Try.func46, Try.ntmps46
  go_wp2
  go_ret
  exact ⟨rfl, rfl⟩
theorem q45 : ∀ (w : World) (a : Option Addr) (n c n' c' : Nat), (binOp .eql 45 (.slice a n c) (.slice none n' c')).run Try.prog w = .ok (.bool a.isNone) w := fun w a n c n' c' => Lib.run_eql_slice_nil w _ _ a n c n' c' Try.underlying45
theorem clone_out (n c : Nat) (w : World) : Calls Try.prog 47 #[.slice none n c] w fun e w' => e = .returned (.slice none 0 0) ∧ w' = w := by
  have q := q45
  go_enter Try.func47, Try.ntmps47
  go_wp2
  go_ret
  exact ⟨rfl, rfl⟩

/-- A copy of bytes, or nil of nil. -/
theorem clone_lies (v : Value) (zs : List Int) (hlen : zs.length ≤ 1000000) (w : World) (h : LiesB w v zs) :
    Calls Try.prog 46 #[v] w fun e w' => ∃ p' cap', e = .returned (.slice p' zs.length cap') ∧ LiesB w' (.slice p' zs.length cap') zs ∧ (∀ a, p' = some a → w.heap.size ≤ a.block ∧ a.block < w'.heap.size) ∧ Below w.heap.size w w' := by
  obtain ⟨p, cap, rfl, hn, hs⟩ := h
  match p, hn, hs with
  | none, hn, _ =>
    obtain ⟨h0, rfl⟩ := hn rfl
    refine (clone_nil zs.length 0 w).mono ?_
    rintro e w' ⟨rfl, rfl⟩
    exact ⟨none, 0, by rw [h0], ⟨none, 0, rfl, fun _ => ⟨h0, rfl⟩, fun a ha => by cases ha⟩, (fun a ha => by cases ha), Below.refl _ _⟩
  | some a, _, hs =>
    refine (clone_some a cap zs hlen w (hs a rfl)).mono ?_
    rintro e w' ⟨g, cp, rfl, hg, hcp, hc, hf, hgl, hb⟩
    refine ⟨some ⟨g, 0, none⟩, cp, rfl, ⟨some ⟨g, 0, none⟩, cp, rfl, (fun q => by cases q), fun a' ha j hj => ?_⟩, (fun a ha => by cases ha; exact ⟨hg, hgl⟩), hb⟩
    cases ha
    rw [Addr.add_lit, Nat.zero_add]
    exact hc j hj
/-- A copy of a memory. -/
theorem clone_mem (b : Nat) (D : Dat) (cap : Nat) (w : World) (h : Mem w b D) :
    Calls Try.prog 46 #[.slice (some ⟨b, 0, none⟩) 65536 cap] w fun e w' => ∃ g cp, e = .returned (.slice (some ⟨g, 0, none⟩) 65536 cp) ∧ w.heap.size ≤ g ∧ (65536 : Int) ≤ cp ∧ Mem w' g D ∧ Below w.heap.size w w' := by
  obtain ⟨zs, hz⟩ : ∃ zs, zs = (List.range 65536).map D := ⟨_, rfl⟩
  have hl : zs.length = 65536 := by rw [hz]; simp
  have hg : ∀ j, j < 65536 → zs.getD j 0 = D j := by intro j hj; rw [hz]; simp [List.getD, hj]
  clear hz
  have := clone_some ⟨b, 0, none⟩ cap zs (by omega) w (fun j hj => by rw [hg j (by omega), Addr.add_lit, Nat.zero_add]; exact h.cell j (by omega))
  rw [hl] at this
  refine this.mono ?_
  rintro e w' ⟨g, cp, rfl, h1, h2, h3, h4, _, h5⟩
  exact ⟨g, cp, rfl, h1, by omega, ⟨fun j hj => by rw [h3 j hj, hg j hj], fun j _ => h4 j⟩, h5⟩

end Go.Proofs.Ytbhkndblolegaaa
