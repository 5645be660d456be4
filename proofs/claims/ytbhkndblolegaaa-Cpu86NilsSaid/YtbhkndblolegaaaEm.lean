/- The walk of the law Cpu86Jumps, where it lets the input by. -/
import Derived.Test.YtbhkndblolegaaaEj
namespace Go.Proofs.Ytbhkndblolegaaa
open Go.RowKit
set_option linter.unusedVariables false
set_option linter.unusedSimpArgs false

theorem infoStart' : (Try.prog.info? 29).map (·.size) = some 18 := by kernel_rfl
theorem own_at15' {w : World} {g : Nat} {cs : Array Value} {r : Rg} {vi vc vd : Value} (h : Own w g cs 29) (e : cs = cellsT r vi vc vd) : w.cell? ⟨g, 15, none⟩ = some vi := by
  subst e
  exact h.cell 15
set_option maxRecDepth 100000 in
set_option maxHeartbeats 4000000 in
theorem jumps_not (r : Rg) (pi pc pd : Option Addr) (ni nc nd ci cc cd : Nat) (op n : Int) (n0 : 0 ≤ n) (n1 : n ≤ 65535) (w : World)
    (h : ¬ ((ni : Int) ≤ 256 ∧ (nc : Int) ≤ 600 ∧ (nd : Int) ≤ 300 ∧ (op = 42 ∨ op = 44 ∨ op = 48 ∨ op = 50) ∧ 0 < n ∧ (n ≤ 127 ∨ 65408 ≤ n))) :
    Calls Try.prog 11 #[.agg (cellsT r (.slice pi ni ci) (.slice pc nc cc) (.slice pd nd cd)), .int .i64 op, .int .u16 n] w fun e w' => e = .returned (.bool true) ∧ Below w.heap.size w w' := by
  obtain ⟨cs, hcs⟩ : ∃ cs, cs = cellsT r (.slice pi ni ci) (.slice pc nc cc) (.slice pd nd cd) := ⟨_, rfl⟩
  have hcs1 : (Try.prog.info? 29).map (·.size) = some cs.size := by rw [hcs]; exact infoStart'
  have O := own_new w cs 29
  have bW : Below w.heap.size w (w.alloc (.cells cs 29)) := balloc (Below.refl _ _) _
  by_cases hl : (ni : Int) ≤ 300 ∧ (nc : Int) ≤ 600 ∧ (nd : Int) ≤ 300
  · have hL : ∀ w, Calls Try.prog 14 #[.agg cs] w fun e w' => e = .returned (.bool true) ∧ Below w.heap.size w w' := by
      rw [hcs]
      exact fun w => light_yes r pi pc pd ni nc nd ci cc cd hl.1 hl.2.1 hl.2.2 w
    rw [← hcs]
    have hcs' := Lib.hid hcs
    clear hcs
    by_cases h2 : (ni : Int) ≤ 256
    · by_cases h3 : op = 42 ∨ op = 44 ∨ op = 48 ∨ op = 50
      · have hC1 : (42 ≤ op ∧ op ≤ 45) ∨ (48 ≤ op ∧ op ≤ 51) := by omega
        have hC2 : (42 ≤ op + 1 ∧ op + 1 ≤ 45) ∨ (48 ≤ op + 1 ∧ op + 1 ≤ 51) := by omega
        have hmod : op.tmod 2 = 0 := by rcases h3 with rfl | rfl | rfl | rfl <;> rfl
        have hwo : IntKind.i64.wrap (op + 1) = op + 1 := by rw [IntKind.wrap_i64]; omega
        have hCY := cond_yes op hC1
        by_cases h4 : n ≤ 127 ∨ 65408 ≤ n
        · obtain rfl : n = 0 := by omega
          have hJ1 := bytesJ_yes op 0 hC1 n0 n1 h4
          have hJ2 := bytesJ_yes (op + 1) 0 hC2 n0 n1 h4
          go_enter Try.func11, Try.ntmps11
          go_wp2_with (first
            | (refine wpList_load_row rfl 29 (.tmp 3) rfl w.heap.size rfl 29 cs (0, 0) _ O Try.underlying29 rfl hcs1 ?_)
            | (go_at_call 14; (with_reducible refine (hL _).mono ?_); rintro e w1 ⟨rfl, hb1⟩; have c15 := own_at15' (O.below hb1) hcs'.out; have lt1 := (O.below hb1).lt)
            | (go_at_call 27; (with_reducible refine (hCY _).mono ?_); rintro e w0 ⟨rfl, rfl⟩)
            | (go_at_call 35; (with_reducible refine (hJ1 _).mono ?_); rintro e w2 ⟨ga, ca, rfl, hla, hb2⟩)
            | (go_at_call 35; (with_reducible refine (hJ2 _).mono ?_); rintro e w3 ⟨gb, cb', rfl, hlb, hb3⟩)
            | (go_at_call 15; (with_reducible refine (alive11 _).mono ?_); rintro e wm ⟨rfl, hbm⟩))
          go_ret
          exact ⟨rfl, bthen hbm (bthen hb3 (bthen hb2 (bthen hb1 bW)))⟩
        · have hJ1 := bytesJ_not op n hC1 (by omega) (by omega)
          have hJ2 := bytesJ_not (op + 1) n hC2 (by omega) (by omega)
          go_enter Try.func11, Try.ntmps11
          go_wp2_with (first
            | (refine wpList_load_row rfl 29 (.tmp 3) rfl w.heap.size rfl 29 cs (0, 0) _ O Try.underlying29 rfl hcs1 ?_)
            | (go_at_call 14; (with_reducible refine (hL _).mono ?_); rintro e w1 ⟨rfl, hb1⟩; have c15 := own_at15' (O.below hb1) hcs'.out; have lt1 := (O.below hb1).lt)
            | (go_at_call 27; (with_reducible refine (hCY _).mono ?_); rintro e w0 ⟨rfl, rfl⟩)
            | (go_at_call 35; (with_reducible refine (hJ1 _).mono ?_); rintro e w2 ⟨rfl, hb2⟩)
            | (go_at_call 35; (with_reducible refine (hJ2 _).mono ?_); rintro e w3 ⟨rfl, hb3⟩)
            | (go_at_call 15; (with_reducible refine (alive11 _).mono ?_); rintro e wm ⟨rfl, hbm⟩))
          go_ret
          exact ⟨rfl, bthen hbm (bthen hb3 (bthen hb2 (bthen hb1 bW)))⟩
      · by_cases h5 : op = 43 ∨ op = 45 ∨ op = 49 ∨ op = 51
        · have hC1 : (42 ≤ op ∧ op ≤ 45) ∨ (48 ≤ op ∧ op ≤ 51) := by omega
          have hmod : op.tmod 2 = 1 := by rcases h5 with rfl | rfl | rfl | rfl <;> rfl
          have hCY := cond_yes op hC1
          go_enter Try.func11, Try.ntmps11
          go_wp2_with (first
            | (refine wpList_load_row rfl 29 (.tmp 3) rfl w.heap.size rfl 29 cs (0, 0) _ O Try.underlying29 rfl hcs1 ?_)
            | (go_at_call 14; (with_reducible refine (hL _).mono ?_); rintro e w1 ⟨rfl, hb1⟩; have c15 := own_at15' (O.below hb1) hcs'.out; have lt1 := (O.below hb1).lt)
            | (go_at_call 27; (with_reducible refine (hCY _).mono ?_); rintro e w0 ⟨rfl, rfl⟩)
            | (go_at_call 15; (with_reducible refine (alive11 _).mono ?_); rintro e wm ⟨rfl, hbm⟩))
          go_ret
          exact ⟨rfl, bthen hbm (bthen hb1 bW)⟩
        · have hCN := cond_not op (by omega)
          go_enter Try.func11, Try.ntmps11
          go_wp2_with (first
            | (refine wpList_load_row rfl 29 (.tmp 3) rfl w.heap.size rfl 29 cs (0, 0) _ O Try.underlying29 rfl hcs1 ?_)
            | (go_at_call 14; (with_reducible refine (hL _).mono ?_); rintro e w1 ⟨rfl, hb1⟩; have c15 := own_at15' (O.below hb1) hcs'.out; have lt1 := (O.below hb1).lt)
            | (go_at_call 27; (with_reducible refine (hCN _).mono ?_); rintro e w0 ⟨rfl, rfl⟩)
            | (go_at_call 15; (with_reducible refine (alive11 _).mono ?_); rintro e wm ⟨rfl, hbm⟩))
          go_ret
          exact ⟨rfl, bthen hbm (bthen hb1 bW)⟩
    · have h2' : (256 : Int) < ni := by omega
      go_enter Try.func11, Try.ntmps11
      go_wp2_with (first
        | (refine wpList_load_row rfl 29 (.tmp 3) rfl w.heap.size rfl 29 cs (0, 0) _ O Try.underlying29 rfl hcs1 ?_)
        | (go_at_call 14; (with_reducible refine (hL _).mono ?_); rintro e w1 ⟨rfl, hb1⟩; have c15 := own_at15' (O.below hb1) hcs'.out; have lt1 := (O.below hb1).lt)
        | (go_at_call 15; (with_reducible refine (alive11 _).mono ?_); rintro e wm ⟨rfl, hbm⟩))
      go_ret
      exact ⟨rfl, bthen hbm (bthen hb1 bW)⟩
  · have hL : ∀ w, Calls Try.prog 14 #[.agg cs] w fun e w' => e = .returned (.bool false) ∧ Below w.heap.size w w' := by
      rw [hcs]
      exact fun w => light_not r pi pc pd ni nc nd ci cc cd hl w
    rw [← hcs]
    clear hcs
    go_enter Try.func11, Try.ntmps11
    go_wp2_with (first
      | (refine wpList_load_row rfl 29 (.tmp 3) rfl w.heap.size rfl 29 cs (0, 0) _ O Try.underlying29 rfl hcs1 ?_)
      | (go_at_call 14; (with_reducible refine (hL _).mono ?_); rintro e w1 ⟨rfl, hb1⟩)
      | (go_at_call 15; (with_reducible refine (alive11 _).mono ?_); rintro e wm ⟨rfl, hbm⟩))
    go_ret
    exact ⟨rfl, bthen hbm (bthen hb1 bW)⟩

end Go.Proofs.Ytbhkndblolegaaa
