/- The walk of the law Cpu86Opens: whatever comes in, the law returns true, and nothing that was there has changed. -/
import Derived.Test.YtbhkndblolegaaaFa
import Derived.Test.YtbhkndblolegaaaEm
import Derived.Test.YtbhkndblolegaaaSt
import Derived.Deep.RegionHeld3
import Derived.Deep.CutRange
import Derived.StillTailTactics
namespace Go.Proofs.Ytbhkndblolegaaa
open Go.RowKit
set_option linter.unusedVariables false
set_option linter.unusedSimpArgs false

/-- make of so many bytes. -/
theorem make_bytes (n : Nat) (h : n ≤ 70000) : ∃ M : Array Value, (∀ w : World, (Instr.makeSlice 26 (.int .i64 (n : Int)) (.int .i64 (n : Int))).run Try.prog w = .ok (.slice (some ⟨w.heap.size, 0, none⟩) n n) (w.alloc (.cells M 5))) ∧ (n = 65536 → ∀ w : World, Mem (w.alloc (.cells M 5)) w.heap.size (memL [])) := by
  refine ⟨madeCells #[.int .u8 0] n, fun w => run_make_row' (P := Try.prog) 26 5 (.int .u8 0) 1 Try.underlying26 infoU8 rfl .i64 .i64 n (by omega) (by omega) w, fun hn w => ?_⟩
  subst hn
  have o := own_new w (madeCells #[.int .u8 0] 65536) 5
  have e : ∀ j, j < 65536 → (madeCells #[Value.int .u8 0] 65536)[j]? = some (.int .u8 0) := by
    intro j hj
    rw [← Array.getElem?_toList, toList_madeCells_one, List.getElem?_replicate, if_pos hj]
  generalize madeCells #[Value.int .u8 0] 65536 = M at *
  exact ⟨fun j hj => (o.cell j).trans (e j hj), fun j _ => o.frozen j⟩

set_option maxRecDepth 100000 in
set_option maxHeartbeats 4000000 in
/-- What the law lets by. -/
theorem opens_by (r : Rg) (pi pc pd : Option Addr) (ni nc nd ci cc cd : Nat) (code data reg : Int) (w : World)
    (h : ¬ ((ni : Int) ≤ 300 ∧ (nc : Int) ≤ 600 ∧ (nd : Int) ≤ 300 ∧ 0 ≤ code ∧ code ≤ 70000 ∧ 0 ≤ data ∧ data ≤ 70000)) :
    Calls Try.prog 9 #[.agg (cellsT r (.slice pi ni ci) (.slice pc nc cc) (.slice pd nd cd)), .int .i64 code, .int .i64 data, .int .i64 reg] w fun e w' => e = .returned (.bool true) ∧ Below w.heap.size w w' := by
  obtain ⟨cs, hcs⟩ : ∃ cs, cs = cellsT r (.slice pi ni ci) (.slice pc nc cc) (.slice pd nd cd) := ⟨_, rfl⟩
  have hcs1 : (Try.prog.info? 29).map (·.size) = some cs.size := by rw [hcs]; exact infoStart'
  have O := own_new w cs 29
  have bW : Below w.heap.size w (w.alloc (.cells cs 29)) := balloc (Below.refl _ _) _
  by_cases hl : (ni : Int) ≤ 300 ∧ (nc : Int) ≤ 600 ∧ (nd : Int) ≤ 300
  · have hL : ∀ w, Calls Try.prog 14 #[.agg cs] w fun e w' => e = .returned (.bool true) ∧ Below w.heap.size w w' := by
      rw [hcs]
      exact fun w => light_yes r pi pc pd ni nc nd ci cc cd hl.1 hl.2.1 hl.2.2 w
    rw [← hcs]
    clear hcs
    have h' : code < 0 ∨ (0 ≤ code ∧ 70000 < code) ∨ (0 ≤ code ∧ code ≤ 70000 ∧ data < 0) ∨ (0 ≤ code ∧ code ≤ 70000 ∧ 0 ≤ data ∧ 70000 < data) := by omega
    clear h
    rcases h' with h | ⟨h1, h⟩ | ⟨h1, h2, h⟩ | ⟨h1, h2, h3, h⟩
    all_goals
      go_enter Try.func9, Try.ntmps9
      go_wp2_with (first
        | (refine wpList_load_row rfl 29 (.tmp 4) rfl w.heap.size rfl 29 cs (0, 0) _ O Try.underlying29 rfl hcs1 ?_)
        | (go_at_call 14; (with_reducible refine (hL _).mono ?_); rintro e w1 ⟨rfl, hb1⟩)
        | (go_at_call 15; (with_reducible refine (alive11 _).mono ?_); rintro e wm ⟨rfl, hbm⟩))
      go_ret
      exact ⟨rfl, bthen hbm (bthen hb1 bW)⟩
  · have hL : ∀ w, Calls Try.prog 14 #[.agg cs] w fun e w' => e = .returned (.bool false) ∧ Below w.heap.size w w' := by
      rw [hcs]
      exact fun w => light_not r pi pc pd ni nc nd ci cc cd hl w
    rw [← hcs]
    clear hcs
    go_enter Try.func9, Try.ntmps9
    go_wp2_with (first
      | (refine wpList_load_row rfl 29 (.tmp 4) rfl w.heap.size rfl 29 cs (0, 0) _ O Try.underlying29 rfl hcs1 ?_)
      | (go_at_call 14; (with_reducible refine (hL _).mono ?_); rintro e w1 ⟨rfl, hb1⟩)
      | (go_at_call 15; (with_reducible refine (alive11 _).mono ?_); rintro e wm ⟨rfl, hbm⟩))
    go_ret
    exact ⟨rfl, bthen hbm (bthen hb1 bW)⟩

theorem cells_open {X : World} {g : Nat} {cs : Array Value} {r : Rg} {vi vc vd : Value} (h : Own X g cs 29) (e : cs = cellsT r vi vc vd) :
    X.cell? ⟨g, 0, none⟩ = some (.int .u16 (r.R 0)) ∧ X.cell? ⟨g, 1, none⟩ = some (.int .u16 (r.R 1)) ∧ X.cell? ⟨g, 2, none⟩ = some (.int .u16 (r.R 2)) ∧ X.cell? ⟨g, 3, none⟩ = some (.int .u16 (r.R 3)) ∧ X.cell? ⟨g, 4, none⟩ = some (.int .u16 (r.R 4)) ∧ X.cell? ⟨g, 5, none⟩ = some (.int .u16 (r.R 5)) ∧ X.cell? ⟨g, 6, none⟩ = some (.int .u16 (r.R 6)) ∧ X.cell? ⟨g, 7, none⟩ = some (.int .u16 (r.R 7)) ∧ X.cell? ⟨g, 13, none⟩ = some (.int .u16 r.ip) ∧ X.cell? ⟨g, 15, none⟩ = some vi := by
  subst e
  exact ⟨h.cell 0, h.cell 1, h.cell 2, h.cell 3, h.cell 4, h.cell 5, h.cell 6, h.cell 7, h.cell 13, h.cell 15⟩
set_option maxRecDepth 100000 in
set_option maxHeartbeats 8000000 in
/-- Sizes of which New makes none. -/
theorem opens_none (r : Rg) (pi pc pd : Option Addr) (ni nc nd ci cc cd : Nat) (code data : Nat) (reg : Int) (hc : code ≤ 70000) (hd : data ≤ 70000) (w : World)
    (h1 : (ni : Int) ≤ 300) (h2 : (nc : Int) ≤ 600) (h3 : (nd : Int) ≤ 300) (h : ¬ ((code : Int) = 65536 ∧ (data : Int) = 65536 ∧ (ni : Int) ≤ 256)) :
    Calls Try.prog 9 #[.agg (cellsT r (.slice pi ni ci) (.slice pc nc cc) (.slice pd nd cd)), .int .i64 (code : Int), .int .i64 (data : Int), .int .i64 reg] w fun e w' => e = .returned (.bool true) ∧ Below w.heap.size w w' := by
  obtain ⟨M1, hm1, _⟩ := make_bytes code hc
  obtain ⟨M2, hm2, _⟩ := make_bytes data hd
  have hc' : (code : Int) ≤ 70000 := by omega
  have hd' : (data : Int) ≤ 70000 := by omega
  obtain ⟨cs, hcs⟩ : ∃ cs, cs = cellsT r (.slice pi ni ci) (.slice pc nc cc) (.slice pd nd cd) := ⟨_, rfl⟩
  have hcs1 : (Try.prog.info? 29).map (·.size) = some cs.size := by rw [hcs]; exact infoStart'
  have O := own_new w cs 29
  have bW : Below w.heap.size w (w.alloc (.cells cs 29)) := balloc (Below.refl _ _) _
  have hL : ∀ w, Calls Try.prog 14 #[.agg cs] w fun e w' => e = .returned (.bool true) ∧ Below w.heap.size w w' := by
    rw [hcs]
    exact fun w => light_yes r pi pc pd ni nc nd ci cc cd h1 h2 h3 w
  rw [← hcs]
  have hcs' := Lib.hid hcs
  clear hcs
  go_enter Try.func9, Try.ntmps9
  go_upto_region 3 with (first
    | (refine wpList_load_row rfl 29 (.tmp 4) rfl w.heap.size rfl 29 cs (0, 0) _ O Try.underlying29 rfl hcs1 ?_)
    | (go_at_call 14; (with_reducible refine (hL _).mono ?_); rintro e w1 ⟨rfl, hb1⟩; have O1 := O.below hb1))
  have kk : ∀ X, Below w1.heap.size w1 X → (X.cell? ⟨w.heap.size, 0, none⟩ = some (.int .u16 (r.R 0)) ∧ X.cell? ⟨w.heap.size, 1, none⟩ = some (.int .u16 (r.R 1)) ∧ X.cell? ⟨w.heap.size, 2, none⟩ = some (.int .u16 (r.R 2)) ∧ X.cell? ⟨w.heap.size, 3, none⟩ = some (.int .u16 (r.R 3)) ∧ X.cell? ⟨w.heap.size, 4, none⟩ = some (.int .u16 (r.R 4)) ∧ X.cell? ⟨w.heap.size, 5, none⟩ = some (.int .u16 (r.R 5)) ∧ X.cell? ⟨w.heap.size, 6, none⟩ = some (.int .u16 (r.R 6)) ∧ X.cell? ⟨w.heap.size, 7, none⟩ = some (.int .u16 (r.R 7)) ∧ X.cell? ⟨w.heap.size, 13, none⟩ = some (.int .u16 r.ip) ∧ X.cell? ⟨w.heap.size, 15, none⟩ = some (.slice pi ni ci)) := fun X h => cells_open (O1.below h) hcs'.out
  have B1 : Below w1.heap.size w1 w1.drew := bdrew (Below.refl _ _)
  have b1w : Below w.heap.size w w1 := bthen hb1 bW
  have lt1 := O1.lt
  have hN : ∀ X pc' pd', Calls Try.prog 30 #[.agg #[.int .u16 (r.R 0), .int .u16 (r.R 1), .int .u16 (r.R 2), .int .u16 (r.R 3), .int .u16 (r.R 4), .int .u16 (r.R 5), .int .u16 (r.R 6), .int .u16 (r.R 7), .bool false, .bool false, .bool false, .bool false, .bool false, .int .u16 r.ip, .bool false, .bool false, .slice pi ni ci, .slice none 0 0], .slice pc' code code, .slice pd' data data] X fun e w' => e = .returned (.tuple #[.pointer none, .int .i64 1]) ∧ Below X.heap.size X w' :=
    fun X pc' pd' => new_not { R := r.R, F := ⟨false, false, false, false, false⟩, ip := r.ip, ie := false, halt := false } pi ni ci pc' pd' code code data data X h
  have h' : ((code : Int) != 65536) = true ∨ (((code : Int) != 65536) = false ∧ ((data : Int) != 65536) = true) ∨ (((code : Int) != 65536) = false ∧ ((data : Int) != 65536) = false ∧ (256 : Int) < ni) := by
    simp only [bne_iff_ne, ne_eq, bne_eq_false_iff_eq]
    omega
  clear h
  go_region_held3 (fun X => (X.cell? ⟨w.heap.size, 0, none⟩ = some (.int .u16 (r.R 0)) ∧ X.cell? ⟨w.heap.size, 1, none⟩ = some (.int .u16 (r.R 1)) ∧ X.cell? ⟨w.heap.size, 2, none⟩ = some (.int .u16 (r.R 2)) ∧ X.cell? ⟨w.heap.size, 3, none⟩ = some (.int .u16 (r.R 3)) ∧ X.cell? ⟨w.heap.size, 4, none⟩ = some (.int .u16 (r.R 4)) ∧ X.cell? ⟨w.heap.size, 5, none⟩ = some (.int .u16 (r.R 5)) ∧ X.cell? ⟨w.heap.size, 6, none⟩ = some (.int .u16 (r.R 6)) ∧ X.cell? ⟨w.heap.size, 7, none⟩ = some (.int .u16 (r.R 7)) ∧ X.cell? ⟨w.heap.size, 13, none⟩ = some (.int .u16 r.ip) ∧ X.cell? ⟨w.heap.size, 15, none⟩ = some (.slice pi ni ci)) ∧ Below w1.heap.size w1 X)
    ((refine (fun hT => ⟨kk _ hT, hT⟩) ?_; (repeat (first | with_reducible exact Below.refl _ _ | with_reducible assumption | with_reducible apply balloc | with_reducible apply bdrew | with_reducible apply bdrewN))))
    (first
      | (go_simp; go_at_call 30; (with_reducible refine (hN _ _ _).mono ?_); rintro e w2 ⟨rfl, hb2⟩; have hB2 : Below w1.heap.size w1 w2 := (bthen hb2 (by (repeat (first | with_reducible exact Below.refl _ _ | with_reducible assumption | with_reducible apply balloc | with_reducible apply bdrew | with_reducible apply bdrewN)))); obtain ⟨_, _, _, _, _, _, _, _, _, c15⟩ := kk w2 hB2))
  all_goals
    rcases h' with h | ⟨h1, h2⟩ | ⟨h1, h2, h3⟩
  all_goals
    go_wp2_with (go_at_call 15; (with_reducible refine (alive11 _).mono ?_); rintro e wm ⟨rfl, hbm⟩)
    go_ret
    exact ⟨rfl, bthen hbm (bthen hB2 b1w)⟩

set_option maxRecDepth 100000 in
set_option maxHeartbeats 8000000 in
/-- A machine of 65536 bytes each. -/
theorem opens_do (r : Rg) (hr : r.Ok) (pi pc pd : Option Addr) (zs : List Int) (nc nd ci cc cd : Nat) (reg : Int) (w : World)
    (h1 : (zs.length : Int) ≤ 256) (h2 : (nc : Int) ≤ 600) (h3 : (nd : Int) ≤ 300) (hz : LiesB w (.slice pi zs.length ci) zs) :
    Calls Try.prog 9 #[.agg (cellsT r (.slice pi zs.length ci) (.slice pc nc cc) (.slice pd nd cd)), .int .i64 65536, .int .i64 65536, .int .i64 reg] w fun e w' => e = .returned (.bool true) ∧ Below w.heap.size w w' := by
  obtain ⟨M, hmk, hM⟩ := mem_new
  obtain ⟨cs, hcs⟩ : ∃ cs, cs = cellsT r (.slice pi zs.length ci) (.slice pc nc cc) (.slice pd nd cd) := ⟨_, rfl⟩
  have hcs1 : (Try.prog.info? 29).map (·.size) = some cs.size := by rw [hcs]; exact infoStart'
  have O := own_new w cs 29
  have bW : Below w.heap.size w (w.alloc (.cells cs 29)) := balloc (Below.refl _ _) _
  have hL : ∀ w, Calls Try.prog 14 #[.agg cs] w fun e w' => e = .returned (.bool true) ∧ Below w.heap.size w w' := by
    rw [hcs]
    exact fun w => light_yes r pi pc pd zs.length nc nd ci cc cd (by omega) h2 h3 w
  rw [← hcs]
  have hcs' := Lib.hid hcs
  clear hcs
  have hM' := Lib.hid hM
  clear hM
  go_enter Try.func9, Try.ntmps9
  go_upto_region 3 with (first
    | (refine wpList_load_row rfl 29 (.tmp 4) rfl w.heap.size rfl 29 cs (0, 0) _ O Try.underlying29 rfl hcs1 ?_)
    | (go_at_call 14; (with_reducible refine (hL _).mono ?_); rintro e w1 ⟨rfl, hb1⟩; have O1 := O.below hb1))
  have kk : ∀ X, Below w1.heap.size w1 X → (X.cell? ⟨w.heap.size, 0, none⟩ = some (.int .u16 (r.R 0)) ∧ X.cell? ⟨w.heap.size, 1, none⟩ = some (.int .u16 (r.R 1)) ∧ X.cell? ⟨w.heap.size, 2, none⟩ = some (.int .u16 (r.R 2)) ∧ X.cell? ⟨w.heap.size, 3, none⟩ = some (.int .u16 (r.R 3)) ∧ X.cell? ⟨w.heap.size, 4, none⟩ = some (.int .u16 (r.R 4)) ∧ X.cell? ⟨w.heap.size, 5, none⟩ = some (.int .u16 (r.R 5)) ∧ X.cell? ⟨w.heap.size, 6, none⟩ = some (.int .u16 (r.R 6)) ∧ X.cell? ⟨w.heap.size, 7, none⟩ = some (.int .u16 (r.R 7)) ∧ X.cell? ⟨w.heap.size, 13, none⟩ = some (.int .u16 r.ip) ∧ X.cell? ⟨w.heap.size, 15, none⟩ = some (.slice pi zs.length ci)) := fun X h => cells_open (O1.below h) hcs'.out
  have B1 : Below w1.heap.size w1 w1.drew := bdrew (Below.refl _ _)
  have b1w : Below w.heap.size w w1 := bthen hb1 bW
  have lt1 := O1.lt
  have hro : Rg.Ok { R := r.R, F := ⟨false, false, false, false, false⟩, ip := r.ip, ie := false, halt := false } := ⟨hr.lo, hr.hi, hr.ip0, hr.ip1⟩
  have hN : ∀ X a b, Below w1.heap.size w1 X → Mem X a (memL []) → Mem X b (memL []) → Calls Try.prog 30 #[.agg #[.int .u16 (r.R 0), .int .u16 (r.R 1), .int .u16 (r.R 2), .int .u16 (r.R 3), .int .u16 (r.R 4), .int .u16 (r.R 5), .int .u16 (r.R 6), .int .u16 (r.R 7), .bool false, .bool false, .bool false, .bool false, .bool false, .int .u16 r.ip, .bool false, .bool false, .slice pi zs.length ci, .slice none 0 0], .slice (some ⟨a, 0, none⟩) 65536 65536, .slice (some ⟨b, 0, none⟩) 65536 65536] X _ :=
    fun X a b hX ha hb => new_any { R := r.R, F := ⟨false, false, false, false, false⟩, ip := r.ip, ie := false, halt := false } hro (.slice pi zs.length ci) zs (by omega) a b (memL []) (memL []) (memL_ok plc_nil) X (hz.below (bthen hX b1w)) ha hb
  have m0 : Mem ((w1.alloc (.cells M 5)).alloc (.cells M 5)).drew w1.heap.size (memL []) := ((hM'.out w1).below (balloc (Below.refl _ _) _)).drewN 1
  have m1 : Mem ((w1.alloc (.cells M 5)).alloc (.cells M 5)).drew (w1.heap.size + 1) (memL []) := by
    have q := hM'.out (w1.alloc (.cells M 5))
    rw [World.size_alloc] at q
    exact q.drewN 1
  obtain ⟨V, hV⟩ : ∃ V, V = (if 0 ≤ reg ∧ reg ≤ 7 then lowL r reg.toNat else 0) := ⟨_, rfl⟩
  go_region_held3 (fun X => (X.cell? ⟨w.heap.size, 0, none⟩ = some (.int .u16 (r.R 0)) ∧ X.cell? ⟨w.heap.size, 1, none⟩ = some (.int .u16 (r.R 1)) ∧ X.cell? ⟨w.heap.size, 2, none⟩ = some (.int .u16 (r.R 2)) ∧ X.cell? ⟨w.heap.size, 3, none⟩ = some (.int .u16 (r.R 3)) ∧ X.cell? ⟨w.heap.size, 4, none⟩ = some (.int .u16 (r.R 4)) ∧ X.cell? ⟨w.heap.size, 5, none⟩ = some (.int .u16 (r.R 5)) ∧ X.cell? ⟨w.heap.size, 6, none⟩ = some (.int .u16 (r.R 6)) ∧ X.cell? ⟨w.heap.size, 7, none⟩ = some (.int .u16 (r.R 7)) ∧ X.cell? ⟨w.heap.size, 13, none⟩ = some (.int .u16 r.ip) ∧ X.cell? ⟨w.heap.size, 15, none⟩ = some (.slice pi zs.length ci)) ∧ Below w1.heap.size w1 X)
    ((refine (fun hT => ⟨kk _ hT, hT⟩) ?_; (repeat (first | with_reducible exact Below.refl _ _ | with_reducible assumption | with_reducible apply balloc | with_reducible apply bdrew | with_reducible apply bdrewN))))
    (first
      | (go_simp; go_at_call 30; (with_reducible refine (hN _ _ _ (by (repeat (first | with_reducible exact Below.refl _ _ | with_reducible assumption | with_reducible apply balloc | with_reducible apply bdrew | with_reducible apply bdrewN))) (by first | exact m0 | exact m1) (by first | exact m0 | exact m1)).mono ?_); rintro e w2 ⟨g, cb', db', ccap, cap, p', icap', rfl, hS, hC, hcc, hI, hpb, hn1, hn2, hg1, hg2, hg3, hb2⟩; have hB2 : Below w1.heap.size w1 w2 := (bthen hb2 (by (repeat (first | with_reducible exact Below.refl _ _ | with_reducible assumption | with_reducible apply balloc | with_reducible apply bdrew | with_reducible apply bdrewN)))); obtain ⟨s0, s1, s2, s3, s4, s5, s6, s7, s13, c15⟩ := kk w2 hB2; have lt2 : w.heap.size < w2.heap.size := Nat.lt_of_lt_of_le lt1 hB2.size))
  all_goals
    go_wp2_with fail
    obtain ⟨W9, hW9⟩ : ∃ W9, W9 = w2.alloc (.cells #[.int .u16 (r.R 0), .int .u16 (r.R 1), .int .u16 (r.R 2), .int .u16 (r.R 3), .int .u16 (r.R 4), .int .u16 (r.R 5), .int .u16 (r.R 6), .int .u16 (r.R 7)] 23) := ⟨_, rfl⟩
    have o9 : Own W9 w2.heap.size #[.int .u16 (r.R 0), .int .u16 (r.R 1), .int .u16 (r.R 2), .int .u16 (r.R 3), .int .u16 (r.R 4), .int .u16 (r.R 5), .int .u16 (r.R 6), .int .u16 (r.R 7)] 23 := by rw [hW9]; exact own_new _ _ _
    have b29 : Below w2.heap.size w2 W9 := by rw [hW9]; exact balloc (Below.refl _ _) _
    rw [← hW9]
    clear hW9 m0 m1
    have S9 := hS.below b29
    have lt9 := o9.lt
    have hL9 : ∀ X, Below W9.heap.size W9 X → Calls Try.prog 20 #[at0 g, .int .i64 reg] X fun e w' => e = .returned (.int .u8 V) ∧ w' = X := by
      intro X hX
      rw [hV]
      split
      · rename_i q
        exact Low_any g _ S9.ok.r _ _ _ _ reg q.1 q.2 X (S9.m.below hX)
      · exact Low_out g reg (by omega) X
    have hR9 : ∀ X ra, Below W9.heap.size W9 X → X.cell? ⟨ra, 0, none⟩ = some (.slice (some ⟨w2.heap.size, 0, none⟩) 8 8) → Calls Try.prog 31 #[at0 ra, .int .i64 reg] X fun e w' => e = .returned (.int .u8 V) ∧ w' = X := by
      intro X ra hX hc
      rw [hV]
      split
      · rename_i q
        refine rLow_any ra w2.heap.size 8 r hr reg q.1 q.2 X hc (by decide) (fun i hi => ?_)
        have : i = 0 ∨ i = 1 ∨ i = 2 ∨ i = 3 ∨ i = 4 ∨ i = 5 ∨ i = 6 ∨ i = 7 := by omega
        rcases this with rfl | rfl | rfl | rfl | rfl | rfl | rfl | rfl
        · exact cell_below (o9.cell 0) hX
        · exact cell_below (o9.cell 1) hX
        · exact cell_below (o9.cell 2) hX
        · exact cell_below (o9.cell 3) hX
        · exact cell_below (o9.cell 4) hX
        · exact cell_below (o9.cell 5) hX
        · exact cell_below (o9.cell 6) hX
        · exact cell_below (o9.cell 7) hX
      · exact rLow_out ra reg (by omega) X
    have b9w : Below w.heap.size w W9 := bthen b29 (bthen hB2 b1w)
    have B9 : Below W9.heap.size W9 W9.drew := bdrew (Below.refl _ _)
    clear hV S9 hS hC hI hN kk
    go_region_held3 (fun X => Below W9.heap.size W9 X)
      ((repeat (first | with_reducible exact Below.refl _ _ | with_reducible assumption | with_reducible apply balloc | with_reducible apply bdrew | with_reducible apply bdrewN)))
      (first
        | (go_simp; go_at_call 20; (with_reducible refine (hL9 _ ?_).mono ?_); (focus (repeat (first | with_reducible exact Below.refl _ _ | with_reducible assumption | with_reducible apply balloc | with_reducible apply bdrew | with_reducible apply bdrewN))); rintro e wn ⟨rfl, rfl⟩)
        | (go_simp; go_at_call 31; (with_reducible refine (hR9 _ _ ?_ ((own_new _ _ _).cell 0)).mono ?_); (focus (repeat (first | with_reducible exact Below.refl _ _ | with_reducible assumption | with_reducible apply balloc | with_reducible apply bdrew | with_reducible apply bdrewN))); rintro e wn ⟨rfl, rfl⟩)
        | (go_simp; go_at_call 15; (with_reducible refine (alive11 _).mono ?_); rintro e wm ⟨rfl, hbm⟩; have hBm : Below W9.heap.size W9 wm := (bthen hbm (by (repeat (first | with_reducible exact Below.refl _ _ | with_reducible assumption | with_reducible apply balloc | with_reducible apply bdrew | with_reducible apply bdrewN)))))) 
    all_goals
      go_wp2
      go_ret
      exact ⟨rfl, bthen hBm b9w⟩

theorem cpu86Opens_any (g : Rg) (vi vc vd : Value) (zs : List Int) (lc ld : Plc) (ok : g.Ok) (_ : g.halt = false) (_ : Byt zs) (_ : lc.Ok) (_ : ld.Ok) (_ : vi.oneCell' = true) (_ : vd.oneCell' = true) (code data reg : Int) (w : World) (zi : LiesB w vi zs) (li : LiesP w vc lc) (lj : LiesP w vd ld) :
    Calls Try.prog 9 #[.agg (cellsT g vi vc vd), .int .i64 code, .int .i64 data, .int .i64 reg] w fun e w' => e = .returned (.bool true) ∧ Below w.heap.size w w' := by
  have zi' := zi
  obtain ⟨pi, ki, rfl, _, _⟩ := zi'
  obtain ⟨pc, kc, rfl, _, _⟩ := li
  obtain ⟨pd, kd, rfl, _, _⟩ := lj
  by_cases h : (zs.length : Int) ≤ 300 ∧ (lc.length : Int) ≤ 600 ∧ (ld.length : Int) ≤ 300 ∧ 0 ≤ code ∧ code ≤ 70000 ∧ 0 ≤ data ∧ data ≤ 70000
  · obtain ⟨h1, h2, h3, h4, h5, h6, h7⟩ := h
    obtain ⟨c, rfl⟩ := Int.eq_ofNat_of_zero_le h4
    obtain ⟨d, rfl⟩ := Int.eq_ofNat_of_zero_le h6
    by_cases h8 : (c : Int) = 65536 ∧ (d : Int) = 65536 ∧ (zs.length : Int) ≤ 256
    · obtain ⟨e1, e2, e3⟩ := h8
      rw [e1, e2]
      exact opens_do g ok pi pc pd zs _ _ ki kc kd reg w e3 h2 h3 zi
    · exact opens_none g pi pc pd _ _ _ ki kc kd c d reg (by omega) (by omega) w h1 h2 h3 h8
  · exact opens_by g pi pc pd _ _ _ ki kc kd code data reg w h

end Go.Proofs.Ytbhkndblolegaaa
