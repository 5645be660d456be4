/- The walk of cpu86's Step. The walk of cpu86's Step, whatever its instruction does. cpu86's Step, of every right instruction but DAA, IN, OUT, CALL. The walk of cpu86's Run, whatever its steps do. -/
import Derived.Test.YtbhkndblolegaaaCr
import Derived.Test.YtbhkndblolegaaaIq
import Derived.Deep.CutRange
namespace Go.Proofs.Ytbhkndblolegaaa
open Go.RowKit
set_option linter.unusedVariables false
set_option linter.unusedSimpArgs false

theorem step_nil (w : World) : Calls Try.prog 19 #[.pointer none] w fun e w' => e = .returned (.int .i64 14) ∧ w' = w := by
  go_enter Try.func19, Try.ntmps19
  go_wp2
  go_ret
  exact ⟨rfl, rfl⟩
theorem step_halt (g db cap : Nat) (vi vo vc : Value) (st : St) (hh : st.r.halt = true) (w : World) (h : Sits w g db cap vi vo vc st) :
    Calls Try.prog 19 #[at0 g] w fun e w' => e = .returned (.int .i64 13) ∧ w' = w := by
  have k := (mach_cells h.m).halt
  rw [hh] at k
  clear h
  go_enter Try.func19, Try.ntmps19
  go_wp2
  go_ret
  exact ⟨rfl, rfl⟩

end Go.Proofs.Ytbhkndblolegaaa

namespace Go.Proofs.Ytbhkndblolegaaa
open Go.RowKit
set_option linter.unusedVariables false
set_option linter.unusedSimpArgs false

/-- The four bytes at a place. -/
def fetchL (C : Dat) (ip : Int) : List Int := [C ip.toNat, C ((ip + 1) % 65536).toNat, C ((ip + 2) % 65536).toNat, C ((ip + 3) % 65536).toNat]
theorem fetch_byt {C : Dat} (h : C.Ok) (a b c d : Nat) : Byt [C a, C b, C c, C d] := by
  intro x hx
  simp at hx
  rcases hx with rfl | rfl | rfl | rfl <;> exact h _
/-- How the machine lies where the instruction has been read. -/
theorem Sits.turn' {w w1 : World} {g db cap : Nat} {vi vo vc : Value} {s : St} (h : Sits w g db cap vi vo vc s) (k : Below w.heap.size w w1) : Sits w1 g db cap vi vo vc s := h.below k

set_option maxRecDepth 100000 in
set_option maxHeartbeats 2000000 in
theorem step_fault (g db cap cb ccap : Nat) (vi vo : Value) (C : Dat) (hCo : C.Ok) (st : St) (hh : st.r.halt = false) (w : World) (h : Sits w g db cap vi vo (.slice (some ⟨cb, 0, none⟩) 65536 ccap) st) (hC : Mem w cb C) (hcc : (65536 : Int) ≤ ccap)
    (q : Int) (hq : ¬ q = 0) (hread : readL (fetchL C st.r.ip) = (0, 0, 0, 0, 0, q)) :
    Calls Try.prog 19 #[at0 g] w fun e w' => e = .returned (.int .i64 12) ∧ Below w.heap.size w w' := by
  have k := (mach_cells h.m).halt
  rw [hh] at k
  have hlt := h.m.lt
  have hltc := hC.lt
  have kip := (mach_cells h.m).ip
  have kvc := (mach_cells h.m).vc
  have b0 := h.ok.r.ip0
  have b1 := h.ok.r.ip1
  have k0 := hC.cell st.r.ip.toNat (by omega)
  have hq' : (q != 0) = true := by simpa using hq
  have u0 : IntKind.u16.wrap 0 = 0 := by decide
  have u1 : IntKind.u16.wrap 1 = 1 := by decide
  have u2 : IntKind.u16.wrap 2 = 2 := by decide
  have u3 : IntKind.u16.wrap 3 = 3 := by decide
  obtain ⟨a1, ha1⟩ : ∃ a : Nat, (st.r.ip + 1) % 65536 = a := ⟨((st.r.ip + 1) % 65536).toNat, by omega⟩
  obtain ⟨a2, ha2⟩ : ∃ a : Nat, (st.r.ip + 2) % 65536 = a := ⟨((st.r.ip + 2) % 65536).toNat, by omega⟩
  obtain ⟨a3, ha3⟩ : ∃ a : Nat, (st.r.ip + 3) % 65536 = a := ⟨((st.r.ip + 3) % 65536).toNat, by omega⟩
  have k1 := hC.cell a1 (by omega)
  have k2 := hC.cell a2 (by omega)
  have k3 := hC.cell a3 (by omega)
  have w1 : IntKind.u16.wrap (st.r.ip + 1) = a1 := by rw [← ha1]; simp [IntKind.wrap, IntKind.bits, IntKind.signed]
  have w2 : IntKind.u16.wrap (st.r.ip + 2) = a2 := by rw [← ha2]; simp [IntKind.wrap, IntKind.bits, IntKind.signed]
  have w3 : IntKind.u16.wrap (st.r.ip + 3) = a3 := by rw [← ha3]; simp [IntKind.wrap, IntKind.bits, IntKind.signed]
  have l1 : (a1 : Int) < 65536 := by omega
  have l2 : (a2 : Int) < 65536 := by omega
  have l3 : (a3 : Int) < 65536 := by omega
  have hby := fetch_byt hCo st.r.ip.toNat a1 a2 a3
  have hread' : toldV (readL [C st.r.ip.toNat, C a1, C a2, C a3]) = .tuple #[.agg #[.int .i64 0, .int .i64 0, .int .i64 0, .int .u16 0], .int .i64 0, .int .i64 q] := by
    have e1 : ((st.r.ip + 1) % 65536).toNat = a1 := by omega
    have e2 : ((st.r.ip + 2) % 65536).toNat = a2 := by omega
    have e3 : ((st.r.ip + 3) % 65536).toNat = a3 := by omega
    unfold fetchL at hread
    rw [e1, e2, e3] at hread
    rw [hread]; rfl
  clear hread
  clear ha1 ha2 ha3
  go_enter Try.func19, Try.ntmps19
  go_wp2
  refine wp_loop_rounds 5 ?_
  simp only [rounds_succ]
  go_wp2
  go_region
  go_wp2
  simp only [rounds_succ]
  go_wp2
  go_region
  go_wp2
  simp only [rounds_succ]
  go_wp2
  go_region
  go_wp2
  simp only [rounds_succ]
  go_wp2
  go_region
  go_wp2
  simp only [rounds_succ]
  go_wp2_with fail
  have o4 := own_new w #[Value.int IntKind.u8 (C st.r.ip.toNat), Value.int IntKind.u8 (C a1), Value.int IntKind.u8 (C a2), Value.int IntKind.u8 (C a3)] 86
  obtain ⟨W, hW⟩ : ∃ W, W = (w.alloc (Obj.cells #[Value.int IntKind.u8 (C st.r.ip.toNat), Value.int IntKind.u8 (C a1), Value.int IntKind.u8 (C a2), Value.int IntKind.u8 (C a3)] 86)).drew.drew.drew.drew := ⟨_, rfl⟩
  have bW : Below w.heap.size w W := by rw [hW]; exact bdrew (bdrew (bdrew (bdrew (balloc (Below.refl _ _) _))))
  have oW : Own W w.heap.size #[Value.int IntKind.u8 (C st.r.ip.toNat), Value.int IntKind.u8 (C a1), Value.int IntKind.u8 (C a2), Value.int IntKind.u8 (C a3)] 86 := by rw [hW]; exact o4.drew.drew.drew.drew
  rw [← hW]
  clear hW o4 k0 k1 k2 k3
  have sW : SeesB W w.heap.size 0 [C st.r.ip.toNat, C a1, C a2, C a3] := by
    intro j hj
    have : j = 0 ∨ j = 1 ∨ j = 2 ∨ j = 3 := by simp at hj; omega
    rcases this with rfl | rfl | rfl | rfl
    · exact oW.cell 0
    · exact oW.cell 1
    · exact oW.cell 2
    · exact oW.cell 3
  have R : Calls Try.prog 23 #[.slice (some ⟨w.heap.size, 0, none⟩) 4 4] W fun e w' => e = .returned (toldV (readL [C st.r.ip.toNat, C a1, C a2, C a3])) ∧ Below W.heap.size W w' := read_two w.heap.size 0 4 (C st.r.ip.toNat) (C a1) [C a2, C a3] (by simp) (by simp) hby W sW
  rw [hread'] at R
  clear hread' sW oW
  go_wp2_with (go_at_call 23; with_reducible refine R.mono ?_; rintro e w1 ⟨rfl, hb1⟩)
  go_ret
  exact ⟨rfl, balloc (bthen hb1 bW) _⟩

set_option maxRecDepth 100000 in
set_option maxHeartbeats 2000000 in
theorem step_does (g db cap cb ccap : Nat) (vi vo : Value) (C : Dat) (hCo : C.Ok) (st : St) (hh : st.r.halt = false) (w : World) (h : Sits w g db cap vi vo (.slice (some ⟨cb, 0, none⟩) 65536 ccap) st) (hC : Mem w cb C) (hcc : (65536 : Int) ≤ ccap)
    (op d s n : Int) (kk : Nat) (hk : (kk : Int) ≤ 4) (hread : readL (fetchL C st.r.ip) = (op, d, s, n, (kk : Int), 0)) (P : World → World → Prop)
    (hdo : ∀ w1, Sits w1 g db cap vi vo (.slice (some ⟨cb, 0, none⟩) 65536 ccap) { st with r := setIp st.r ((st.r.ip + kk) % 65536) } → Mem w1 cb C → Calls Try.prog 40 #[at0 g, .agg #[.int .i64 op, .int .i64 d, .int .i64 s, .int .u16 n]] w1 fun e w' => e = .returned (.tuple #[]) ∧ P w1 w') (hne : ¬ cb = g) :
    Calls Try.prog 19 #[at0 g] w fun e w' => e = .returned (.int .i64 0) ∧ ∃ w1, Sits w1 g db cap vi vo (.slice (some ⟨cb, 0, none⟩) 65536 ccap) { st with r := setIp st.r ((st.r.ip + kk) % 65536) } ∧ Turn (two g db) w w1 ∧ Mem w1 cb C ∧ P w1 w' := by
  have k := (mach_cells h.m).halt
  rw [hh] at k
  have hlt := h.m.lt
  have hltc := hC.lt
  have kip := (mach_cells h.m).ip
  have kvc := (mach_cells h.m).vc
  have b0 := h.ok.r.ip0
  have b1 := h.ok.r.ip1
  have k0 := hC.cell st.r.ip.toNat (by omega)
  have hkw : IntKind.u16.wrap (kk : Int) = kk := by simp [IntKind.wrap, IntKind.bits, IntKind.signed]; omega
  have hw : IntKind.u16.wrap (st.r.ip + kk) = (st.r.ip + kk) % 65536 := by simp [IntKind.wrap, IntKind.bits, IntKind.signed]
  have u0 : IntKind.u16.wrap 0 = 0 := by decide
  have u1 : IntKind.u16.wrap 1 = 1 := by decide
  have u2 : IntKind.u16.wrap 2 = 2 := by decide
  have u3 : IntKind.u16.wrap 3 = 3 := by decide
  obtain ⟨a1, ha1⟩ : ∃ a : Nat, (st.r.ip + 1) % 65536 = a := ⟨((st.r.ip + 1) % 65536).toNat, by omega⟩
  obtain ⟨a2, ha2⟩ : ∃ a : Nat, (st.r.ip + 2) % 65536 = a := ⟨((st.r.ip + 2) % 65536).toNat, by omega⟩
  obtain ⟨a3, ha3⟩ : ∃ a : Nat, (st.r.ip + 3) % 65536 = a := ⟨((st.r.ip + 3) % 65536).toNat, by omega⟩
  have k1 := hC.cell a1 (by omega)
  have k2 := hC.cell a2 (by omega)
  have k3 := hC.cell a3 (by omega)
  have w1 : IntKind.u16.wrap (st.r.ip + 1) = a1 := by rw [← ha1]; simp [IntKind.wrap, IntKind.bits, IntKind.signed]
  have w2 : IntKind.u16.wrap (st.r.ip + 2) = a2 := by rw [← ha2]; simp [IntKind.wrap, IntKind.bits, IntKind.signed]
  have w3 : IntKind.u16.wrap (st.r.ip + 3) = a3 := by rw [← ha3]; simp [IntKind.wrap, IntKind.bits, IntKind.signed]
  have l1 : (a1 : Int) < 65536 := by omega
  have l2 : (a2 : Int) < 65536 := by omega
  have l3 : (a3 : Int) < 65536 := by omega
  have hby := fetch_byt hCo st.r.ip.toNat a1 a2 a3
  have hread' : toldV (readL [C st.r.ip.toNat, C a1, C a2, C a3]) = .tuple #[.agg #[.int .i64 op, .int .i64 d, .int .i64 s, .int .u16 n], .int .i64 kk, .int .i64 0] := by
    have e1 : ((st.r.ip + 1) % 65536).toNat = a1 := by omega
    have e2 : ((st.r.ip + 2) % 65536).toNat = a2 := by omega
    have e3 : ((st.r.ip + 3) % 65536).toNat = a3 := by omega
    unfold fetchL at hread
    rw [e1, e2, e3] at hread
    rw [hread]; rfl
  clear hread
  clear ha1 ha2 ha3
  go_enter Try.func19, Try.ntmps19
  go_wp2
  refine wp_loop_rounds 5 ?_
  simp only [rounds_succ]
  go_wp2
  go_region
  go_wp2
  simp only [rounds_succ]
  go_wp2
  go_region
  go_wp2
  simp only [rounds_succ]
  go_wp2
  go_region
  go_wp2
  simp only [rounds_succ]
  go_wp2
  go_region
  go_wp2
  simp only [rounds_succ]
  go_wp2_with fail
  have o4 := own_new w #[Value.int IntKind.u8 (C st.r.ip.toNat), Value.int IntKind.u8 (C a1), Value.int IntKind.u8 (C a2), Value.int IntKind.u8 (C a3)] 86
  obtain ⟨W, hW⟩ : ∃ W, W = (w.alloc (Obj.cells #[Value.int IntKind.u8 (C st.r.ip.toNat), Value.int IntKind.u8 (C a1), Value.int IntKind.u8 (C a2), Value.int IntKind.u8 (C a3)] 86)).drew.drew.drew.drew := ⟨_, rfl⟩
  have bW : Below w.heap.size w W := by rw [hW]; exact bdrew (bdrew (bdrew (bdrew (balloc (Below.refl _ _) _))))
  have oW : Own W w.heap.size #[Value.int IntKind.u8 (C st.r.ip.toNat), Value.int IntKind.u8 (C a1), Value.int IntKind.u8 (C a2), Value.int IntKind.u8 (C a3)] 86 := by rw [hW]; exact o4.drew.drew.drew.drew
  rw [← hW]
  clear hW o4 k0 k1 k2 k3
  have sW : SeesB W w.heap.size 0 [C st.r.ip.toNat, C a1, C a2, C a3] := by
    intro j hj
    have : j = 0 ∨ j = 1 ∨ j = 2 ∨ j = 3 := by simp at hj; omega
    rcases this with rfl | rfl | rfl | rfl
    · exact oW.cell 0
    · exact oW.cell 1
    · exact oW.cell 2
    · exact oW.cell 3
  have R : Calls Try.prog 23 #[.slice (some ⟨w.heap.size, 0, none⟩) 4 4] W fun e w' => e = .returned (toldV (readL [C st.r.ip.toNat, C a1, C a2, C a3])) ∧ Below W.heap.size W w' := read_two w.heap.size 0 4 (C st.r.ip.toNat) (C a1) [C a2, C a3] (by simp) (by simp) hby W sW
  rw [hread'] at R
  clear hread' sW oW
  go_upto_region 14 with (go_at_call 23; with_reducible refine R.mono ?_; rintro e w1 ⟨rfl, hb1⟩)
  have oi := own_new w1 #[.int .i64 op, .int .i64 d, .int .i64 s, .int .u16 n] 52
  have hb2 : Below w.heap.size w (w1.alloc (.cells #[.int .i64 op, .int .i64 d, .int .i64 s, .int .u16 n] 52)) := balloc (bthen hb1 bW) _
  obtain ⟨w2, hw2⟩ : ∃ w2, w2 = w1.alloc (.cells #[.int .i64 op, .int .i64 d, .int .i64 s, .int .u16 n] 52) := ⟨_, rfl⟩
  rw [← hw2] at oi hb2 ⊢
  have lt2 : g < w1.heap.size := Nat.lt_of_lt_of_le hlt (Nat.le_trans (bsize bW) hb1.size)
  clear hw2 R
  have S2 := h.below hb2
  have C2 := hC.below hb2
  have oc := own4c (oi.setOther (a := ⟨g, 13, none⟩) (.int .u16 ((st.r.ip + kk) % 65536)) (by show ¬ w1.heap.size = g; omega))
  have f13 := S2.m.frozen 13
  have m13 := (mach_cells S2.m).ip
  have lt13 := S2.m.lt
  have Q := sits_ip S2 ((st.r.ip + kk) % 65536) (by omega) (by omega)
  have CQ := C2.turn Q.2 hne
  have T := (Turn.of hb2).trans (turn_g (db := db) Q.2)
  have D := hdo _ Q.1 CQ
  have QQ := Lib.hid (And.intro Q.1 (And.intro T CQ))
  clear Q CQ T S2 C2 h hC hb2 hb1 bW oi
  go_wp2_with (go_at_call 40; with_reducible refine D.mono ?_; rintro e w3 ⟨rfl, hp⟩)
  go_ret
  exact ⟨rfl, _, QQ.out.1, QQ.out.2.1, QQ.out.2.2, hp⟩

end Go.Proofs.Ytbhkndblolegaaa

namespace Go.Proofs.Ytbhkndblolegaaa
open Go.RowKit
set_option linter.unusedVariables false
set_option linter.unusedSimpArgs false

/-- The state where an instruction of kk bytes has been read. -/
def pastL (st : St) (kk : Nat) : St := { st with r := setIp st.r ((st.r.ip + kk) % 65536) }
theorem step_goes (g db cap cb ccap : Nat) (vi vo : Value) (C : Dat) (hCo : C.Ok) (st : St) (hh : st.r.halt = false) (w : World) (h : Sits w g db cap vi vo (.slice (some ⟨cb, 0, none⟩) 65536 ccap) st) (hC : Mem w cb C) (hcc : (65536 : Int) ≤ ccap)
    (op d s n k : Int) (hread : readL (fetchL C st.r.ip) = (op, d, s, n, k, 0)) (h22 : ¬ op = 22) (h30 : ¬ op = 30) (h31 : ¬ op = 31) (h34 : ¬ op = 34) (hng : ¬ cb = g) (hnd : ¬ cb = db) :
    Calls Try.prog 19 #[at0 g] w fun e w' => e = .returned (.int .i64 0) ∧ Sits w' g db cap vi vo (.slice (some ⟨cb, 0, none⟩) 65536 ccap) (doesL (pastL st k.toNat) op d s n) ∧ Mem w' cb C ∧ Turn (two g db) w w' := by
  obtain ⟨kk, rfl, k1, k4, _, n0, n1, hr, _⟩ := read_whole (fetchL C st.r.ip) (fetch_byt hCo _ _ _ _) op d s n k hread
  have hne : (headsL op d s).1 ≠ [] := by intro e; simp [rightL, e] at hr
  refine (step_does g db cap cb ccap vi vo C hCo st hh w h hC hcc op d s n kk (by omega) hread (fun w1 w' => Sits w' g db cap vi vo (.slice (some ⟨cb, 0, none⟩) 65536 ccap) (doesL (pastL st kk) op d s n) ∧ Turn (two g db) w1 w') (fun w1 h1 _ => does_all g db cap vi vo _ (pastL st kk) op d s n hne n0 n1 h22 h30 h31 h34 w1 h1) hng).mono ?_
  rintro e w' ⟨rfl, w1, _, T1, M1, S2, T2⟩
  exact ⟨rfl, S2, M1.turn T2 (fun q => q.elim hng hnd), T1.trans T2⟩

end Go.Proofs.Ytbhkndblolegaaa

namespace Go.Proofs.Ytbhkndblolegaaa
open Go.RowKit
set_option linter.unusedVariables false
set_option linter.unusedSimpArgs false

theorem run_nil (n : Int) (w : World) : Calls Try.prog 16 #[.pointer none, .int .i64 n] w fun e w' => e = .returned (.tuple #[.int .i64 0, .int .i64 14]) ∧ w' = w := by
  go_enter Try.func16, Try.ntmps16
  go_wp2
  go_ret2
  exact ⟨rfl, rfl⟩

set_option maxHeartbeats 1000000 in
/-- m steps go, and then no more are asked, or one tells another kind. -/
theorem run_inv (g : Nat) (n : Int) (hn : n ≤ 1000000) (m : Nat) (hm : (m : Int) ≤ n ∨ m = 0) (q : Int) (hq : (q != 0) = true) (I : Nat → World → Prop)
    (hstep : ∀ k w, k < m → I k w → Calls Try.prog 19 #[at0 g] w fun e w' => e = .returned (.int .i64 0) ∧ I (k + 1) w')
    (hstop : (m : Int) < n → ∀ w, I m w → Calls Try.prog 19 #[at0 g] w fun e w' => e = .returned (.int .i64 q) ∧ I m w') (w : World) (h0 : I 0 w) :
    Calls Try.prog 16 #[at0 g, .int .i64 n] w fun e w' => e = .returned (.tuple #[.int .i64 m, .int .i64 (if (m : Int) < n then q else 0)]) ∧ I m w' := by
  have hmm : (m : Int) ≤ 1000000 := by omega
  go_enter Try.func16, Try.ntmps16
  go_wp2
  go_loopw [6] (fun i wr => ∃ k : Nat, k ≤ m ∧ i = .int .i64 k ∧ I k wr) (fun i _ => m - (intOf i).toNat)
  case atStart => exact ⟨0, Nat.zero_le _, rfl, h0⟩
  case round =>
    obtain ⟨k, hk, rfl, hI⟩ := hrel
    by_cases hk2 : k < m
    · have hkn : (k : Int) < n := by omega
      have S := hstep k _ hk2 hI
      clear hstep hstop
      go_wp2_with (go_at_call 19; with_reducible refine S.mono ?_; rintro e w1 ⟨rfl, hI1⟩)
      go_roundw
      case rel => exact ⟨k + 1, by omega, by go_num, hI1⟩
      case measure => simp [intOf]; omega
    · obtain rfl : k = m := by omega
      by_cases hkn : (k : Int) < n
      · have S := hstop hkn _ hI
        clear hstep hstop
        go_wp2_with (go_at_call 19; with_reducible refine S.mono ?_; rintro e w1 ⟨rfl, hI1⟩)
        go_ret2
        exact ⟨by first | rfl | (rw [if_pos hkn]; rfl), hI1⟩
      · clear hstep hstop
        go_wp2
        go_ret2
        exact ⟨by first | rfl | (rw [if_neg hkn]; rfl), hI⟩

end Go.Proofs.Ytbhkndblolegaaa
