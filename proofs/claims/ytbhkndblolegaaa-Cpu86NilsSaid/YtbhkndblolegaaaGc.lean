/- The walks of the law Cpu86Nils. -/
import Derived.Test.YtbhkndblolegaaaGa
import Derived.Test.YtbhkndblolegaaaGb
namespace Go.Proofs.Ytbhkndblolegaaa
open Go.RowKit
set_option linter.unusedVariables false
set_option linter.unusedSimpArgs false

theorem lies_new (X : World) (b : Int) : LiesB (X.alloc (.cells #[.int .u8 b] 5)) (.slice (some ⟨X.heap.size, 0, none⟩) 1 1) [b] := by
  refine liesB_own (bs := [b]) (fun j hj => ?_)
  obtain rfl : j = 0 := by simpa using hj
  exact (own_new X #[.int .u8 b] 5).cell 0
theorem hlt_halt (st : St) : (doesL st 28 0 0 0).r.halt = true := by simp [doesL, setHalt]

set_option maxRecDepth 100000 in
set_option maxHeartbeats 16000000 in
theorem nils_pos (r : Rg) (pi pc pd : Option Addr) (ci cc cd : Nat) (zs : List Int) (lc ld : Plc) (n : Int) (hn0 : 0 < n) (hn : n ≤ 1000) (w : World) (hB : Begin w r (.slice pi zs.length ci) (.slice pc lc.length cc) (.slice pd ld.length cd) zs lc ld) (h1 : (zs.length : Int) ≤ 256) (h2 : (lc.length : Int) ≤ 600) (h3 : (ld.length : Int) ≤ 300) :
    Calls Try.prog 3 #[.agg (cellsT r (.slice pi zs.length ci) (.slice pc lc.length cc) (.slice pd ld.length cd)), .int .i64 n] w fun e w' => e = .returned (.bool true) ∧ Below w.heap.size w w' := by
  have hB' := Lib.hid hB
  obtain ⟨cs, hcs⟩ : ∃ cs, cs = cellsT r (.slice pi zs.length ci) (.slice pc lc.length cc) (.slice pd ld.length cd) := ⟨_, rfl⟩
  have hcs1 : (Try.prog.info? 29).map (·.size) = some cs.size := by rw [hcs]; exact infoStart'
  have i0 := hB.ok.ip0
  have i1 := hB.ok.ip1
  have O := own_new w cs 29
  have bW : Below w.heap.size w (w.alloc (.cells cs 29)) := balloc (Below.refl _ _) _
  have hL : ∀ w, Calls Try.prog 14 #[.agg cs] w fun e w' => e = .returned (.bool true) ∧ Below w.heap.size w w' := by
    rw [hcs]
    exact fun w => light_yes r pi pc pd zs.length lc.length ld.length ci cc cd (by omega) h2 h3 w
  have hWi : ∀ X (b : Int), Byt [b] → Below w.heap.size w X → Calls Try.prog 18 #[.agg cs, .slice (some ⟨X.heap.size, 0, none⟩) 1 1] (X.alloc (.cells #[.int .u8 b] 5)) fun e w' => ∃ vc', e = .returned (.agg (cellsT r (.slice pi zs.length ci) vc' (.slice pd ld.length cd))) ∧ Begin w' r (.slice pi zs.length ci) vc' (.slice pd ld.length cd) zs (withL r.ip [b] lc) ld ∧ Below X.heap.size X w' := by
    intro X b hy hX
    have hXa : Below w.heap.size w (X.alloc (.cells #[.int .u8 b] 5)) := balloc hX _
    rw [hcs]
    refine (with_any r hB'.out.ok _ _ rfl rfl _ _ lc [b] (by omega) (by simp) _ (hB'.out.c.below hXa) (lies_new X b)).mono ?_
    rintro e w' ⟨vc', rfl, hc', hb'⟩
    exact ⟨vc', rfl, (hB'.out.below hXa).with_ hb' _ hy (by simp; omega) hc', bthen hb' (balloc (Below.refl _ _) _)⟩
  have hRf := read_15 r.ip i0 i1 lc hB.cok
  have hRh := read_hlt r.ip i0 i1 lc hB.cok
  have hCof := memL_ok (withL_byt_ok hB.cok r.ip [15] byt15)
  have hCoh := memL_ok (withL_byt_ok hB.cok r.ip [244] byt244)
  rw [← hcs]
  have hcs' := Lib.hid hcs
  clear hB hcs
  go_enter Try.func3, Try.ntmps3
  go_wp2_with (first
    | (refine wpList_load_row rfl 29 (.tmp 2) rfl w.heap.size rfl 29 cs (0, 0) _ O Try.underlying29 rfl hcs1 ?_)
    | (refine wpList_load_row rfl 29 (.tmp 2) rfl w.heap.size rfl 29 cs (0, 0) _ O1 Try.underlying29 rfl hcs1 ?_)
    | (refine wpList_load_row rfl 29 (.tmp 2) rfl w.heap.size rfl 29 cs (0, 0) _ O3 Try.underlying29 rfl hcs1 ?_)
    | (go_at_call 14; (with_reducible refine (hL _).mono ?_); rintro e w1 ⟨rfl, hb1⟩; have O1 := O.below hb1; have c15 := own_at15' O1 hcs'.out; have lt1 := O1.lt; have b1 := bthen hb1 bW)
    | (go_at_call 16; (with_reducible refine (run_nil 1 _).mono ?_); rintro e w0 ⟨rfl, hw0⟩; have hw1 := hw0.symm; clear hw0; subst hw1)
    | (go_at_call 19; (with_reducible refine (step_nil _).mono ?_); rintro e w0 ⟨rfl, hw0⟩; have hw1 := hw0.symm; clear hw0; subst hw1)
    | (go_at_call 20; (with_reducible refine (Low_nil 0 _).mono ?_); rintro e w0 ⟨rfl, hw0⟩; have hw1 := hw0.symm; clear hw0; subst hw1)
    | (go_at_call 18; (with_reducible refine (hWi w1 244 byt244 b1).mono ?_); rintro e w2 ⟨vc1, rfl, hB2, hb2⟩)
    | (go_at_call 17; (with_reducible refine (open_any r _ vc1 _ _ _ _ w2 hB2).mono ?_); rintro e w3 ⟨g, cb, db, ccap, cap, icap, p, ra, gr, capr, gc, gd, rfl, Q⟩; have b13 := bthen Q.below hb2; have O3 := O1.below b13; have b3 := bthen b13 b1)
    | (go_at_call 18; (with_reducible refine (hWi w3 15 byt15 b3).mono ?_); rintro e w4 ⟨vc2, rfl, hB4, hb4⟩)
    | (go_at_call 17; (with_reducible refine (open_any r _ vc2 _ _ _ _ w4 hB4).mono ?_); rintro e w5 ⟨g', cb', db', ccap', cap', icap', p', ra', gr', capr', gc', gd', rfl, Q'⟩; have b35 := bthen Q'.below hb4; have b5 := bthen b35 b3; have z3g := Q.s.m.lt; have z3d := Q.s.d.lt; have g0' := Q'.g0; have far' := Q'.far; have z34 := hb4.size; have hS1 := step_goes g db cap cb ccap _ _ _ hCoh _ hB'.out.halt w5 (Q.s.below b35) (Q.c.below b35) Q.cc _ _ _ _ _ hRh (by decide) (by decide) (by decide) (by decide) Q.cg Q.cd)
    | (go_at_call 19; (with_reducible refine hS1.mono ?_); rintro e w6 ⟨rfl, S6, M6, T6⟩; have Sd6 := Sits.far2 Q'.s T6 (fun q => by rcases q with q | q <;> omega) (fun q => by rcases q with q | q <;> omega); have Cd6 := Q'.c.turn T6 (fun q => by rcases q with q | q <;> omega); have g00 := Q.g0; have z2 := hb2.size; have zb1 := b1.size; have b6 : Below w.heap.size w w6 := T6.below b5 b5.size (two_far (by omega) (by omega)); have hR1 := run_halted g db cap _ _ _ _ (hlt_halt _) n (by omega) w6 S6; have hR2 := run_faulted g' db' cap' cb' ccap' _ _ _ hCof _ hB'.out.halt n (by omega) w6 Sd6 Cd6 Q'.cc hRf; rw [if_pos hn0] at hR1 hR2)
    | (go_at_call 16; (with_reducible refine hR1.mono ?_); rintro e w0 ⟨rfl, rfl⟩)
    | (go_at_call 16; (with_reducible refine hR2.mono ?_); rintro e w7 ⟨rfl, hb7⟩; have b07 := bthen hb7 b6; have S7 := Sd6.below hb7; have C7 := Cd6.below hb7; have I7 := (LiesB.turn Q'.i T6 (fun a ha q => by have := Q'.ia a ha; rcases q with q | q <;> omega)).below hb7; have Q7 := (Told86.turn Q'.q T6 (fun q => by rcases q with q | q <;> omega) (fun q => by rcases q with q | q <;> omega) (fun q => by rcases q with q | q <;> omega)).below hb7; have QC7 := (Q'.qc.turn T6 (fun q => by rcases q with q | q <;> omega)).below hb7; have QI7 := hB'.out.i.below b07)
    | (go_at_call 21; (with_reducible refine (same_yes g' db' cap' cb' ccap' icap' p' zs (by omega) ⟨r, memL ld⟩ (memL (withL r.ip [15] lc)) ra' gr' capr' gd' gc' (.slice pi zs.length ci) w7 S7 C7 I7 Q7 QC7 QI7).mono ?_); rintro e w8 ⟨rfl, hb8⟩)
    | (go_at_call 15; (with_reducible refine (alive11 _).mono ?_); rintro e wm ⟨rfl, hbm⟩))
  go_ret
  exact ⟨rfl, bthen hbm (bthen hb8 b07)⟩

set_option maxRecDepth 100000 in
set_option maxHeartbeats 16000000 in
theorem nils_neg (r : Rg) (pi pc pd : Option Addr) (ci cc cd : Nat) (zs : List Int) (lc ld : Plc) (n : Int) (hn0 : n ≤ 0) (w : World) (hB : Begin w r (.slice pi zs.length ci) (.slice pc lc.length cc) (.slice pd ld.length cd) zs lc ld) (h1 : (zs.length : Int) ≤ 256) (h2 : (lc.length : Int) ≤ 600) (h3 : (ld.length : Int) ≤ 300) :
    Calls Try.prog 3 #[.agg (cellsT r (.slice pi zs.length ci) (.slice pc lc.length cc) (.slice pd ld.length cd)), .int .i64 n] w fun e w' => e = .returned (.bool true) ∧ Below w.heap.size w w' := by
  have hB' := Lib.hid hB
  obtain ⟨cs, hcs⟩ : ∃ cs, cs = cellsT r (.slice pi zs.length ci) (.slice pc lc.length cc) (.slice pd ld.length cd) := ⟨_, rfl⟩
  have hcs1 : (Try.prog.info? 29).map (·.size) = some cs.size := by rw [hcs]; exact infoStart'
  have i0 := hB.ok.ip0
  have i1 := hB.ok.ip1
  have O := own_new w cs 29
  have bW : Below w.heap.size w (w.alloc (.cells cs 29)) := balloc (Below.refl _ _) _
  have hL : ∀ w, Calls Try.prog 14 #[.agg cs] w fun e w' => e = .returned (.bool true) ∧ Below w.heap.size w w' := by
    rw [hcs]
    exact fun w => light_yes r pi pc pd zs.length lc.length ld.length ci cc cd (by omega) h2 h3 w
  have hWi : ∀ X (b : Int), Byt [b] → Below w.heap.size w X → Calls Try.prog 18 #[.agg cs, .slice (some ⟨X.heap.size, 0, none⟩) 1 1] (X.alloc (.cells #[.int .u8 b] 5)) fun e w' => ∃ vc', e = .returned (.agg (cellsT r (.slice pi zs.length ci) vc' (.slice pd ld.length cd))) ∧ Begin w' r (.slice pi zs.length ci) vc' (.slice pd ld.length cd) zs (withL r.ip [b] lc) ld ∧ Below X.heap.size X w' := by
    intro X b hy hX
    have hXa : Below w.heap.size w (X.alloc (.cells #[.int .u8 b] 5)) := balloc hX _
    rw [hcs]
    refine (with_any r hB'.out.ok _ _ rfl rfl _ _ lc [b] (by omega) (by simp) _ (hB'.out.c.below hXa) (lies_new X b)).mono ?_
    rintro e w' ⟨vc', rfl, hc', hb'⟩
    exact ⟨vc', rfl, (hB'.out.below hXa).with_ hb' _ hy (by simp; omega) hc', bthen hb' (balloc (Below.refl _ _) _)⟩
  have hRf := read_15 r.ip i0 i1 lc hB.cok
  have hRh := read_hlt r.ip i0 i1 lc hB.cok
  have hCof := memL_ok (withL_byt_ok hB.cok r.ip [15] byt15)
  have hCoh := memL_ok (withL_byt_ok hB.cok r.ip [244] byt244)
  rw [← hcs]
  have hcs' := Lib.hid hcs
  clear hB hcs
  go_enter Try.func3, Try.ntmps3
  go_wp2_with (first
    | (refine wpList_load_row rfl 29 (.tmp 2) rfl w.heap.size rfl 29 cs (0, 0) _ O Try.underlying29 rfl hcs1 ?_)
    | (refine wpList_load_row rfl 29 (.tmp 2) rfl w.heap.size rfl 29 cs (0, 0) _ O1 Try.underlying29 rfl hcs1 ?_)
    | (refine wpList_load_row rfl 29 (.tmp 2) rfl w.heap.size rfl 29 cs (0, 0) _ O3 Try.underlying29 rfl hcs1 ?_)
    | (go_at_call 14; (with_reducible refine (hL _).mono ?_); rintro e w1 ⟨rfl, hb1⟩; have O1 := O.below hb1; have c15 := own_at15' O1 hcs'.out; have lt1 := O1.lt; have b1 := bthen hb1 bW)
    | (go_at_call 16; (with_reducible refine (run_nil 1 _).mono ?_); rintro e w0 ⟨rfl, hw0⟩; have hw1 := hw0.symm; clear hw0; subst hw1)
    | (go_at_call 19; (with_reducible refine (step_nil _).mono ?_); rintro e w0 ⟨rfl, hw0⟩; have hw1 := hw0.symm; clear hw0; subst hw1)
    | (go_at_call 20; (with_reducible refine (Low_nil 0 _).mono ?_); rintro e w0 ⟨rfl, hw0⟩; have hw1 := hw0.symm; clear hw0; subst hw1)
    | (go_at_call 18; (with_reducible refine (hWi w1 244 byt244 b1).mono ?_); rintro e w2 ⟨vc1, rfl, hB2, hb2⟩)
    | (go_at_call 17; (with_reducible refine (open_any r _ vc1 _ _ _ _ w2 hB2).mono ?_); rintro e w3 ⟨g, cb, db, ccap, cap, icap, p, ra, gr, capr, gc, gd, rfl, Q⟩; have b13 := bthen Q.below hb2; have O3 := O1.below b13; have b3 := bthen b13 b1)
    | (go_at_call 18; (with_reducible refine (hWi w3 15 byt15 b3).mono ?_); rintro e w4 ⟨vc2, rfl, hB4, hb4⟩)
    | (go_at_call 17; (with_reducible refine (open_any r _ vc2 _ _ _ _ w4 hB4).mono ?_); rintro e w5 ⟨g', cb', db', ccap', cap', icap', p', ra', gr', capr', gc', gd', rfl, Q'⟩; have b35 := bthen Q'.below hb4; have b5 := bthen b35 b3; have z3g := Q.s.m.lt; have z3d := Q.s.d.lt; have g0' := Q'.g0; have far' := Q'.far; have z34 := hb4.size; have hS1 := step_goes g db cap cb ccap _ _ _ hCoh _ hB'.out.halt w5 (Q.s.below b35) (Q.c.below b35) Q.cc _ _ _ _ _ hRh (by decide) (by decide) (by decide) (by decide) Q.cg Q.cd)
    | (go_at_call 19; (with_reducible refine hS1.mono ?_); rintro e w6 ⟨rfl, S6, M6, T6⟩; have Sd6 := Sits.far2 Q'.s T6 (fun q => by rcases q with q | q <;> omega) (fun q => by rcases q with q | q <;> omega); have Cd6 := Q'.c.turn T6 (fun q => by rcases q with q | q <;> omega); have g00 := Q.g0; have z2 := hb2.size; have zb1 := b1.size; have b6 : Below w.heap.size w w6 := T6.below b5 b5.size (two_far (by omega) (by omega)); have hR1 := run_halted g db cap _ _ _ _ (hlt_halt _) n (by omega) w6 S6; have hR2 := run_faulted g' db' cap' cb' ccap' _ _ _ hCof _ hB'.out.halt n (by omega) w6 Sd6 Cd6 Q'.cc hRf; rw [if_neg (by omega)] at hR1 hR2)
    | (go_at_call 16; (with_reducible refine hR1.mono ?_); rintro e w0 ⟨rfl, rfl⟩)
    | (go_at_call 16; (with_reducible refine hR2.mono ?_); rintro e w7 ⟨rfl, hb7⟩; have b07 := bthen hb7 b6)
    | (go_at_call 15; (with_reducible refine (alive11 _).mono ?_); rintro e wm ⟨rfl, hbm⟩))
  go_ret
  exact ⟨rfl, bthen hbm b07⟩

set_option maxRecDepth 100000 in
set_option maxHeartbeats 4000000 in
/-- What the law lets by. -/
theorem nils_by (r : Rg) (pi pc pd : Option Addr) (ni nc nd ci cc cd : Nat) (n : Int) (w : World)
    (h : ¬ ((ni : Int) ≤ 256 ∧ (nc : Int) ≤ 600 ∧ (nd : Int) ≤ 300 ∧ n ≤ 1000)) :
    Calls Try.prog 3 #[.agg (cellsT r (.slice pi ni ci) (.slice pc nc cc) (.slice pd nd cd)), .int .i64 n] w fun e w' => e = .returned (.bool true) ∧ Below w.heap.size w w' := by
  obtain ⟨cs, hcs⟩ : ∃ cs, cs = cellsT r (.slice pi ni ci) (.slice pc nc cc) (.slice pd nd cd) := ⟨_, rfl⟩
  have hcs1 : (Try.prog.info? 29).map (·.size) = some cs.size := by rw [hcs]; exact infoStart'
  have O := own_new w cs 29
  have bW : Below w.heap.size w (w.alloc (.cells cs 29)) := balloc (Below.refl _ _) _
  by_cases hl : (ni : Int) ≤ 300 ∧ (nc : Int) ≤ 600 ∧ (nd : Int) ≤ 300
  · have hL : ∀ w, Calls Try.prog 14 #[.agg cs] w fun e w' => e = .returned (.bool true) ∧ Below w.heap.size w w' := by
      rw [hcs]
      exact fun w => light_yes r pi pc pd ni nc nd ci cc cd hl.1 hl.2.1 hl.2.2 w
    rw [← hcs]
    have hcs' := Lib.hid hcs
    clear hcs
    have h' : (256 : Int) < ni ∨ ((ni : Int) ≤ 256 ∧ 1000 < n) := by omega
    clear h
    rcases h' with h | ⟨h0, h⟩
    all_goals
      go_enter Try.func3, Try.ntmps3
      go_wp2_with (first
        | (refine wpList_load_row rfl 29 (.tmp 2) rfl w.heap.size rfl 29 cs (0, 0) _ O Try.underlying29 rfl hcs1 ?_)
        | (go_at_call 14; (with_reducible refine (hL _).mono ?_); rintro e w1 ⟨rfl, hb1⟩; have c15 := own_at15' (O.below hb1) hcs'.out; have lt1 := (O.below hb1).lt)
        | (go_at_call 15; (with_reducible refine (alive11 _).mono ?_); rintro e wm ⟨rfl, hbm⟩))
      go_ret
      exact ⟨rfl, bthen hbm (bthen hb1 bW)⟩
  · have hL : ∀ w, Calls Try.prog 14 #[.agg cs] w fun e w' => e = .returned (.bool false) ∧ Below w.heap.size w w' := by
      rw [hcs]
      exact fun w => light_not r pi pc pd ni nc nd ci cc cd hl w
    rw [← hcs]
    clear hcs
    go_enter Try.func3, Try.ntmps3
    go_wp2_with (first
      | (refine wpList_load_row rfl 29 (.tmp 2) rfl w.heap.size rfl 29 cs (0, 0) _ O Try.underlying29 rfl hcs1 ?_)
      | (go_at_call 14; (with_reducible refine (hL _).mono ?_); rintro e w1 ⟨rfl, hb1⟩)
      | (go_at_call 15; (with_reducible refine (alive11 _).mono ?_); rintro e wm ⟨rfl, hbm⟩))
    go_ret
    exact ⟨rfl, bthen hbm (bthen hb1 bW)⟩

theorem cpu86Nils_any (g : Rg) (vi vc vd : Value) (zs : List Int) (lc ld : Plc) (ok : g.Ok) (hl : g.halt = false) (_ : Byt zs) (ci : lc.Ok) (cj : ld.Ok) (_ : vi.oneCell' = true) (_ : vd.oneCell' = true) (n : Int) (w : World) (zi : LiesB w vi zs) (li : LiesP w vc lc) (lj : LiesP w vd ld) :
    Calls Try.prog 3 #[.agg (cellsT g vi vc vd), .int .i64 n] w fun e w' => e = .returned (.bool true) ∧ Below w.heap.size w w' := by
  have zi' := zi
  have li' := li
  have lj' := lj
  obtain ⟨pi, ki, rfl, _, _⟩ := zi'
  obtain ⟨pc, kc, rfl, _, _⟩ := li'
  obtain ⟨pd, kd, rfl, _, _⟩ := lj'
  by_cases h : (zs.length : Int) ≤ 256 ∧ (lc.length : Int) ≤ 600 ∧ (ld.length : Int) ≤ 300 ∧ n ≤ 1000
  · obtain ⟨h1, h2, h3, h4⟩ := h
    have hB : Begin w g (.slice pi zs.length ki) (.slice pc lc.length kc) (.slice pd ld.length kd) zs lc ld := ⟨ok, hl, zi, li, lj, ci, cj, by omega, by omega, by omega⟩
    by_cases hn : 0 < n
    · exact nils_pos g pi pc pd ki kc kd zs lc ld n hn h4 w hB h1 h2 h3
    · exact nils_neg g pi pc pd ki kc kd zs lc ld n (by omega) w hB h1 h2 h3
  · exact nils_by g pi pc pd _ _ _ ki kc kd n w h

end Go.Proofs.Ytbhkndblolegaaa
