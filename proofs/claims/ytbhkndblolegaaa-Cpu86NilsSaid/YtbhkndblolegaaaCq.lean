/- The walks of cpu86's alone (but DAA) and flow. The walks of cpu86's does: operations without operands, and jumps. -/
import Derived.Test.YtbhkndblolegaaaCo
import Derived.BigRegion
import Derived.Deep.RegionHeld3
import Derived.Deep.CutRange
namespace Go.Proofs.Ytbhkndblolegaaa
open Go.RowKit
set_option linter.unusedVariables false
set_option linter.unusedSimpArgs false

def ofF (a : Int) : Fl := { s := sgn a, z := a / 64 % 2 == 1, a := a / 16 % 2 == 1, p := a / 4 % 2 == 1, c := a % 2 == 1 }
def pswL (F : Fl) : Int := pswV F.s F.z F.a F.p F.c
theorem pswL_lo (F : Fl) : 0 ≤ pswL F ∧ pswL F ≤ 255 := by
  unfold pswL pswV
  have a := cb_lo F.s
  have b := cb_hi F.s
  have c := cb_lo F.z
  have d := cb_hi F.z
  have e := cb_lo F.a
  have f := cb_hi F.a
  have g := cb_lo F.p
  have h := cb_hi F.p
  have i := cb_lo F.c
  have j := cb_hi F.c
  omega
def setIp (r : Rg) (v : Int) : Rg := { r with ip := v }
def setIe (r : Rg) (b : Bool) : Rg := { r with ie := b }
def setHalt (r : Rg) : Rg := { r with halt := true }
theorem setIp_ok {r : Rg} (h : r.Ok) (v : Int) (v0 : 0 ≤ v) (v1 : v ≤ 65535) : (setIp r v).Ok := ⟨h.lo, h.hi, v0, v1⟩
theorem setIe_ok {r : Rg} (h : r.Ok) (b : Bool) : (setIe r b).Ok := ⟨h.lo, h.hi, h.ip0, h.ip1⟩
theorem setHalt_ok {r : Rg} (h : r.Ok) : (setHalt r).Ok := ⟨h.lo, h.hi, h.ip0, h.ip1⟩
theorem sits_ip {w : World} {g db cap : Nat} {vi vo vc : Value} {s : St} (h : Sits w g db cap vi vo vc s) (v : Int) (v0 : 0 ≤ v) (v1 : v ≤ 65535) :
    Sits (w.setCell ⟨g, 13, none⟩ (.int .u16 v)) g db cap vi vo vc { s with r := setIp s.r v } ∧ Turn (one g) w (w.setCell ⟨g, 13, none⟩ (.int .u16 v)) :=
  have T : Turn (one g) w (w.setCell ⟨g, 13, none⟩ (.int .u16 v)) := .setCell (S := one g) (.inl rfl) (.refl _ _)
  ⟨h.regs (own_eq (h.m.set 13 _) (by simp [cellsC, setIp])) (setIp_ok h.ok.r v v0 v1) T, T⟩
theorem sits_ie {w : World} {g db cap : Nat} {vi vo vc : Value} {s : St} (h : Sits w g db cap vi vo vc s) (b : Bool) :
    Sits (w.setCell ⟨g, 14, none⟩ (.bool b)) g db cap vi vo vc { s with r := setIe s.r b } ∧ Turn (one g) w (w.setCell ⟨g, 14, none⟩ (.bool b)) :=
  have T : Turn (one g) w (w.setCell ⟨g, 14, none⟩ (.bool b)) := .setCell (S := one g) (.inl rfl) (.refl _ _)
  ⟨h.regs (own_eq (h.m.set 14 _) (by simp [cellsC, setIe])) (setIe_ok h.ok.r b) T, T⟩
theorem sits_halt {w : World} {g db cap : Nat} {vi vo vc : Value} {s : St} (h : Sits w g db cap vi vo vc s) :
    Sits (w.setCell ⟨g, 15, none⟩ (.bool true)) g db cap vi vo vc { s with r := setHalt s.r } ∧ Turn (one g) w (w.setCell ⟨g, 15, none⟩ (.bool true)) :=
  have T : Turn (one g) w (w.setCell ⟨g, 15, none⟩ (.bool true)) := .setCell (S := one g) (.inl rfl) (.refl _ _)
  ⟨h.regs (own_eq (h.m.set 15 _) (by simp [cellsC, setHalt])) (setHalt_ok h.ok.r) T, T⟩

set_option maxHeartbeats 1000000 in
theorem alone_20 (g db cap : Nat) (vi vo vc : Value) (s : St) (w : World) (h : Sits w g db cap vi vo vc s) :
    Calls Try.prog 60 #[at0 g, .int .i64 20] w (Goes g db cap vi vo vc w (.tuple #[]) { s with r := setLow s.r 4 (pswL s.r.F) }) := by
  have b := pswL_lo s.r.F
  have P := fun w => psw_any s.r.F.s s.r.F.z s.r.F.a s.r.F.p s.r.F.c w
  rw [show pswV s.r.F.s s.r.F.z s.r.F.a s.r.F.p s.r.F.c = pswL s.r.F from rfl] at P
  have L := fun W (hB : Below w.heap.size w W) => low_any g s.r h.ok.r vi vo vc _ 4 (pswL s.r.F) (by omega) (by omega) b.1 b.2 W (h.below hB).m
  have ok := setLow_ok h.ok.r 4 (pswL s.r.F) b.1 b.2
  have H := Lib.hid h
  obtain ⟨_, _, _, _, _, _, _, _, m8, m9, m10, m11, m12, _, _, _, _, _, _, _⟩ := mach_cells h.m
  generalize pswL s.r.F = X at *
  clear h b
  go_enter Try.func60, Try.ntmps60
  go_wp2_with fail
  refine (P _).mono ?_
  rintro e w1 ⟨rfl, hb1⟩
  clear m8 m9 m10 m11 m12
  go_wp2_with fail
  refine (L _ hb1).mono ?_
  rintro e w2 ⟨rfl, M, T⟩
  go_wp2
  go_end0
  exact ⟨rfl, (H.out.below hb1).regs M ok T, (Turn.of hb1).trans (turn_g T)⟩

set_option maxHeartbeats 1000000 in
theorem alone_21 (g db cap : Nat) (vi vo vc : Value) (s : St) (w : World) (h : Sits w g db cap vi vo vc s) :
    Calls Try.prog 60 #[at0 g, .int .i64 21] w (Goes g db cap vi vo vc w (.tuple #[]) { s with r := setF s.r (ofF (lowL s.r 4)) }) := by
  have b0 := lowL_lo h.ok.r 4
  have b1 := lowL_hi h.ok.r 4
  have L := Low_any g s.r h.ok.r vi vo vc _ 4 (by omega) (by omega) w h.m
  rw [show (4 : Int).toNat = 4 from rfl] at L
  have O := fun w => wof_any (lowL s.r 4) b0 b1 w
  have H := Lib.hid h
  have f8 := h.m.frozen 8
  have f9 := h.m.frozen 9
  have f10 := h.m.frozen 10
  have f11 := h.m.frozen 11
  have f12 := h.m.frozen 12
  have hlt := h.m.lt
  obtain ⟨_, _, _, _, _, _, _, _, m8, m9, m10, m11, m12, _, _, _, _, _, _, _⟩ := mach_cells h.m
  change ∀ w, Calls _ _ _ w fun e w' => e = .returned (.agg #[.bool (ofF (lowL s.r 4)).s, .bool (ofF (lowL s.r 4)).z, .bool (ofF (lowL s.r 4)).a, .bool (ofF (lowL s.r 4)).p, .bool (ofF (lowL s.r 4)).c]) ∧ Below w.heap.size w w' at O
  generalize ofF (lowL s.r 4) = F' at *
  generalize lowL s.r 4 = X at *
  clear h
  go_enter Try.func60, Try.ntmps60
  go_wp2_with fail
  refine L.mono ?_
  rintro e w0 ⟨rfl, rfl⟩
  go_wp2_with fail
  refine (O _).mono ?_
  rintro e w1 ⟨rfl, hb1⟩
  have S1 := H.out.below hb1
  have g8 := S1.m.frozen 8
  have g9 := S1.m.frozen 9
  have g10 := S1.m.frozen 10
  have g11 := S1.m.frozen 11
  have g12 := S1.m.frozen 12
  obtain ⟨_, _, _, _, _, _, _, _, n8, n9, n10, n11, n12, _, _, _, _, _, _, _⟩ := mach_cells S1.m
  have P := sits_F S1 F'
  have Q := Lib.hid P
  clear P m8 m9 m10 m11 m12 f8 f9 f10 f11 f12 S1
  go_wp2
  go_end0
  exact ⟨rfl, Q.out.1, (Turn.of hb1).trans (turn_g Q.out.2)⟩
theorem alone_23 (g db cap : Nat) (vi vo vc : Value) (s : St) (w : World) (h : Sits w g db cap vi vo vc s) :
    Calls Try.prog 60 #[at0 g, .int .i64 23] w (Goes g db cap vi vo vc w (.tuple #[]) { s with r := setC s.r (!s.r.F.c) }) := by
  have f12 := h.m.frozen 12
  have m12 := (mach_cells h.m).fc
  have Q := Lib.hid (sits_C h (!s.r.F.c))
  clear h
  go_enter Try.func60, Try.ntmps60
  go_wp2
  go_end0
  exact ⟨rfl, Q.out.1, turn_g Q.out.2⟩
theorem alone_24 (g db cap : Nat) (vi vo vc : Value) (s : St) (w : World) (h : Sits w g db cap vi vo vc s) :
    Calls Try.prog 60 #[at0 g, .int .i64 24] w (Goes g db cap vi vo vc w (.tuple #[]) { s with r := setC s.r true }) := by
  have f12 := h.m.frozen 12
  have m12 := (mach_cells h.m).fc
  have Q := Lib.hid (sits_C h true)
  clear h
  go_enter Try.func60, Try.ntmps60
  go_wp2
  go_end0
  exact ⟨rfl, Q.out.1, turn_g Q.out.2⟩
theorem alone_25 (g db cap : Nat) (vi vo vc : Value) (s : St) (w : World) (h : Sits w g db cap vi vo vc s) :
    Calls Try.prog 60 #[at0 g, .int .i64 25] w (Goes g db cap vi vo vc w (.tuple #[]) { s with r := setC s.r false }) := by
  have f12 := h.m.frozen 12
  have m12 := (mach_cells h.m).fc
  have Q := Lib.hid (sits_C h false)
  clear h
  go_enter Try.func60, Try.ntmps60
  go_wp2
  go_end0
  exact ⟨rfl, Q.out.1, turn_g Q.out.2⟩
theorem alone_26 (g db cap : Nat) (vi vo vc : Value) (s : St) (w : World) (h : Sits w g db cap vi vo vc s) :
    Calls Try.prog 60 #[at0 g, .int .i64 26] w (Goes g db cap vi vo vc w (.tuple #[]) { s with r := setIe s.r true }) := by
  have f14 := h.m.frozen 14
  have m14 := (mach_cells h.m).ie
  have Q := Lib.hid (sits_ie h true)
  clear h
  go_enter Try.func60, Try.ntmps60
  go_wp2
  go_end0
  exact ⟨rfl, Q.out.1, turn_g Q.out.2⟩
theorem alone_27 (g db cap : Nat) (vi vo vc : Value) (s : St) (w : World) (h : Sits w g db cap vi vo vc s) :
    Calls Try.prog 60 #[at0 g, .int .i64 27] w (Goes g db cap vi vo vc w (.tuple #[]) { s with r := setIe s.r false }) := by
  have f14 := h.m.frozen 14
  have m14 := (mach_cells h.m).ie
  have Q := Lib.hid (sits_ie h false)
  clear h
  go_enter Try.func60, Try.ntmps60
  go_wp2
  go_end0
  exact ⟨rfl, Q.out.1, turn_g Q.out.2⟩
theorem alone_28 (g db cap : Nat) (vi vo vc : Value) (s : St) (w : World) (h : Sits w g db cap vi vo vc s) :
    Calls Try.prog 60 #[at0 g, .int .i64 28] w (Goes g db cap vi vo vc w (.tuple #[]) { s with r := setHalt s.r }) := by
  have f15 := h.m.frozen 15
  have m15 := (mach_cells h.m).halt
  have Q := Lib.hid (sits_halt h)
  clear h
  go_enter Try.func60, Try.ntmps60
  go_wp2
  go_end0
  exact ⟨rfl, Q.out.1, turn_g Q.out.2⟩
theorem alone_29 (g db cap : Nat) (vi vo vc : Value) (s : St) (w : World) (h : Sits w g db cap vi vo vc s) :
    Calls Try.prog 60 #[at0 g, .int .i64 29] w (Goes g db cap vi vo vc w (.tuple #[]) s) := by
  have Q := Lib.hid h
  clear h
  go_enter Try.func60, Try.ntmps60
  go_wp2
  go_end0
  exact ⟨rfl, Q.out, .refl _ _⟩
set_option maxHeartbeats 1000000 in
theorem alone_35 (g db cap : Nat) (vi vo vc : Value) (s : St) (w : World) (h : Sits w g db cap vi vo vc s) :
    Calls Try.prog 60 #[at0 g, .int .i64 35] w (Goes g db cap vi vo vc w (.tuple #[]) { popL s with r := setIp (popL s).r (wordL s.D (s.r.R 4).toNat) }) := by
  have b := wordL_lo h.ok.D (s.r.R 4).toNat
  have P := pop_any g db cap vi vo vc s w h
  generalize wordL s.D (s.r.R 4).toNat = X at *
  clear h
  go_enter Try.func60, Try.ntmps60
  go_wp2_with fail
  refine P.mono ?_
  rintro e w1 ⟨rfl, S1, T1⟩
  have f13 := S1.m.frozen 13
  have m13 := (mach_cells S1.m).ip
  have Q := Lib.hid (sits_ip S1 X b.1 b.2)
  clear S1
  go_wp2
  go_end0
  exact ⟨rfl, Q.out.1, T1.trans (turn_g Q.out.2)⟩

set_option maxHeartbeats 1000000 in
theorem flow_yes (g db cap : Nat) (vi vo vc : Value) (st : St) (op d s n : Int) (hop : condP op) (n0 : 0 ≤ n) (n1 : n ≤ 65535) (hh : holdsL st.r.F op = true) (w : World) (h : Sits w g db cap vi vo vc st) :
    Calls Try.prog 59 #[at0 g, .agg #[.int .i64 op, .int .i64 d, .int .i64 s, .int .u16 n]] w (Goes g db cap vi vo vc w (.tuple #[]) { st with r := setIp st.r ((st.r.ip + n) % 65536) }) := by
  have hge : 42 ≤ op := by unfold condP at hop; omega
  have hne : ¬ op = 34 := by omega
  have o := own_new w #[.int .i64 op, .int .i64 d, .int .i64 s, .int .u16 n] 52
  have ok := own4c o
  have hb : Below w.heap.size w (w.alloc (.cells #[.int .i64 op, .int .i64 d, .int .i64 s, .int .u16 n] 52)) := balloc (Below.refl _ _) _
  have S1 := h.below hb
  have b0 := h.ok.r.ip0
  have b1 := h.ok.r.ip1
  have hw : IntKind.u16.wrap (st.r.ip + n) = (st.r.ip + n) % 65536 := by simp [IntKind.wrap, IntKind.bits, IntKind.signed]
  have hlt := h.m.lt
  have H := holds_any g st.r _ _ _ _ op hop _ S1.m
  rw [hh] at H
  go_enter Try.func59, Try.ntmps59
  go_wp2_with (go_at_call 86; with_reducible refine H.mono ?_; rintro e w1 ⟨rfl, rfl⟩)
  clear H
  have f13 := S1.m.frozen 13
  have m13 := (mach_cells S1.m).ip
  obtain ⟨W, hW⟩ : ∃ W, W = w.alloc (.cells #[.int .i64 op, .int .i64 d, .int .i64 s, .int .u16 n] 52) := ⟨_, rfl⟩
  rw [← hW] at ok hb S1 f13 m13 ⊢
  have Q := sits_ip S1 ((st.r.ip + n) % 65536) (by omega) (by omega)
  have Q' := Lib.hid (And.intro (Q.1.drewN 1) (Q.2.drew))
  have hb' := Lib.hid hb
  clear S1 h hb Q hW o
  go_region
  go_end0
  exact ⟨rfl, Q'.out.1, (Turn.of hb'.out).trans (turn_g Q'.out.2)⟩
set_option maxHeartbeats 1000000 in
theorem flow_no (g db cap : Nat) (vi vo vc : Value) (st : St) (op d s n : Int) (hop : condP op) (n0 : 0 ≤ n) (n1 : n ≤ 65535) (hh : holdsL st.r.F op = false) (w : World) (h : Sits w g db cap vi vo vc st) :
    Calls Try.prog 59 #[at0 g, .agg #[.int .i64 op, .int .i64 d, .int .i64 s, .int .u16 n]] w (Goes g db cap vi vo vc w (.tuple #[]) st) := by
  have hge : 42 ≤ op := by unfold condP at hop; omega
  have hne : ¬ op = 34 := by omega
  have o := own_new w #[.int .i64 op, .int .i64 d, .int .i64 s, .int .u16 n] 52
  have ok := own4c o
  have hb : Below w.heap.size w (w.alloc (.cells #[.int .i64 op, .int .i64 d, .int .i64 s, .int .u16 n] 52)) := balloc (Below.refl _ _) _
  have S1 := h.below hb
  have b0 := h.ok.r.ip0
  have b1 := h.ok.r.ip1
  have hw : IntKind.u16.wrap (st.r.ip + n) = (st.r.ip + n) % 65536 := by simp [IntKind.wrap, IntKind.bits, IntKind.signed]
  have hlt := h.m.lt
  have H := holds_any g st.r _ _ _ _ op hop _ S1.m
  rw [hh] at H
  go_enter Try.func59, Try.ntmps59
  go_wp2_with (go_at_call 86; with_reducible refine H.mono ?_; rintro e w1 ⟨rfl, rfl⟩)
  go_end0
  exact ⟨rfl, S1, .of hb⟩
set_option maxHeartbeats 1000000 in
theorem flow_32 (g db cap : Nat) (vi vo vc : Value) (st : St) (d s n : Int) (n0 : 0 ≤ n) (n1 : n ≤ 65535) (w : World) (h : Sits w g db cap vi vo vc st) :
    Calls Try.prog 59 #[at0 g, .agg #[.int .i64 32, .int .i64 d, .int .i64 s, .int .u16 n]] w (Goes g db cap vi vo vc w (.tuple #[]) { st with r := setIp st.r ((st.r.ip + n) % 65536) }) := by
  have o := own_new w #[.int .i64 32, .int .i64 d, .int .i64 s, .int .u16 n] 52
  have ok := own4c o
  have hb : Below w.heap.size w (w.alloc (.cells #[.int .i64 32, .int .i64 d, .int .i64 s, .int .u16 n] 52)) := balloc (Below.refl _ _) _
  have S1 := h.below hb
  have b0 := h.ok.r.ip0
  have b1 := h.ok.r.ip1
  have hw : IntKind.u16.wrap (st.r.ip + n) = (st.r.ip + n) % 65536 := by simp [IntKind.wrap, IntKind.bits, IntKind.signed]
  have hlt := h.m.lt
  go_enter Try.func59, Try.ntmps59
  go_wp2
  have f13 := S1.m.frozen 13
  have m13 := (mach_cells S1.m).ip
  obtain ⟨W, hW⟩ : ∃ W, W = w.alloc (.cells #[.int .i64 32, .int .i64 d, .int .i64 s, .int .u16 n] 52) := ⟨_, rfl⟩
  rw [← hW] at ok hb S1 f13 m13 ⊢
  have Q := sits_ip S1 ((st.r.ip + n) % 65536) (by omega) (by omega)
  have Q' := Lib.hid (And.intro (Q.1.drewN 1) (Q.2.drew))
  have hb' := Lib.hid hb
  clear S1 h hb Q hW o
  go_region
  go_end0
  exact ⟨rfl, Q'.out.1, (Turn.of hb'.out).trans (turn_g Q'.out.2)⟩
set_option maxHeartbeats 1000000 in
theorem flow_33 (g db cap : Nat) (vi vo vc : Value) (st : St) (d s n : Int) (n0 : 0 ≤ n) (n1 : n ≤ 65535) (w : World) (h : Sits w g db cap vi vo vc st) :
    Calls Try.prog 59 #[at0 g, .agg #[.int .i64 33, .int .i64 d, .int .i64 s, .int .u16 n]] w (Goes g db cap vi vo vc w (.tuple #[]) { st with r := setIp st.r ((st.r.ip + n) % 65536) }) := by
  have o := own_new w #[.int .i64 33, .int .i64 d, .int .i64 s, .int .u16 n] 52
  have ok := own4c o
  have hb : Below w.heap.size w (w.alloc (.cells #[.int .i64 33, .int .i64 d, .int .i64 s, .int .u16 n] 52)) := balloc (Below.refl _ _) _
  have S1 := h.below hb
  have b0 := h.ok.r.ip0
  have b1 := h.ok.r.ip1
  have hw : IntKind.u16.wrap (st.r.ip + n) = (st.r.ip + n) % 65536 := by simp [IntKind.wrap, IntKind.bits, IntKind.signed]
  have hlt := h.m.lt
  go_enter Try.func59, Try.ntmps59
  go_wp2
  have f13 := S1.m.frozen 13
  have m13 := (mach_cells S1.m).ip
  obtain ⟨W, hW⟩ : ∃ W, W = w.alloc (.cells #[.int .i64 33, .int .i64 d, .int .i64 s, .int .u16 n] 52) := ⟨_, rfl⟩
  rw [← hW] at ok hb S1 f13 m13 ⊢
  have Q := sits_ip S1 ((st.r.ip + n) % 65536) (by omega) (by omega)
  have Q' := Lib.hid (And.intro (Q.1.drewN 1) (Q.2.drew))
  have hb' := Lib.hid hb
  clear S1 h hb Q hW o
  go_region
  go_end0
  exact ⟨rfl, Q'.out.1, (Turn.of hb'.out).trans (turn_g Q'.out.2)⟩

end Go.Proofs.Ytbhkndblolegaaa

namespace Go.Proofs.Ytbhkndblolegaaa
open Go.RowKit
set_option linter.unusedVariables false
set_option linter.unusedSimpArgs false

set_option maxRecDepth 100000 in
set_option maxHeartbeats 4000000 in
theorem does_alone (g db cap : Nat) (vi vo vc : Value) (st : St) (op d s n m : Int) (st' : St) (hop : (20 ≤ op ∧ op ≤ 29) ∨ op = 35) (A : ∀ W, Sits W g db cap vi vo vc st → Calls Try.prog 60 #[at0 g, .int .i64 op] W (Goes g db cap vi vo vc W (.tuple #[]) st')) (hm : m = 8 ∨ m = 16) (n0 : 0 ≤ n) (n1 : n ≤ 65535) (w : World) (h : Sits w g db cap vi vo vc st)
    (hof : ∀ w, Calls Try.prog 53 #[.agg #[.int .i64 op, .int .i64 d, .int .i64 s, .int .u16 n]] w fun e w' => e = .returned (.int .u64 m) ∧ Below w.heap.size w w') :
    Calls Try.prog 40 #[at0 g, .agg #[.int .i64 op, .int .i64 d, .int .i64 s, .int .u16 n]] w (Goes g db cap vi vo vc w (.tuple #[]) (st')) := by
  have h30 : (op != 30) = true := by simp; omega
  have h31 : (op != 31) = true := by simp; omega
  have h20 : 20 ≤ op := by omega
  have hmf : ∀ (fn : Fn) (first cap : Array Value) (w : World), (Instr.makeFunc fn first cap).run Try.prog w = .ok (.func fn first cap) w := fun _ _ _ _ => rfl
  obtain ⟨oc0, oi0⟩ := boxes w g op d s n
  go_enter Try.func40, Try.ntmps40
  go_wp2_with (first
    | (go_at_call 53; with_reducible refine (hof _).mono ?_; rintro e w1 ⟨rfl, hb1⟩; have oc1 := oc0.below hb1; have oi1 := oi0.below hb1; have kc1 := oc1.cell 0; have ki1 := own4c oi1; have hlt1 : w.heap.size + 1 < w1.heap.size := oi1.lt)
    | (go_at_call 58; with_reducible refine (jumps_no op d s n (by omega) _).mono ?_; rintro e w2 ⟨rfl, hb2⟩; have oc2 := (oc1.alloc (Obj.cells #[Value.int IntKind.u64 m] 106)).below hb2; have oi2 := (oi1.alloc (Obj.cells #[Value.int IntKind.u64 m] 106)).below hb2; have ow2 := (own_new w1 #[Value.int IntKind.u64 m] 106).below hb2; have kc2 := oc2.cell 0; have ki2 := own4c oi2; have kw2 := ow2.cell 0))
  have hb02 : Below w.heap.size w w2 := bthen hb2 (balloc (bthen hb1 (balloc (balloc (Below.refl _ _) _) _)) _)
  have S2 := h.below hb02
  have K2 : Caught w2 w.heap.size (w.heap.size + 1) w1.heap.size g op d s n m := ⟨kc2, ki2.1, ki2.2.1, ki2.2.2.1, ki2.2.2.2, kw2⟩
  have hg : g < w.heap.size := h.m.lt
  have hdb : db < w.heap.size := h.d.lt
  have np : ¬ two g db w.heap.size := by unfold two; omega
  have nq : ¬ two g db (w.heap.size + 1) := by unfold two; omega
  have nt : ¬ two g db w1.heap.size := by unfold two; omega
  have G := A w2 S2
  clear A
  go_wp2_with fail
  refine G.mono ?_
  rintro e wn ⟨rfl, Sn, Tn⟩
  go_wp2
  go_end0
  exact ⟨rfl, Sn, (Turn.of hb02).trans Tn⟩

set_option maxRecDepth 100000 in
set_option maxHeartbeats 4000000 in
theorem does_flow (g db cap : Nat) (vi vo vc : Value) (st : St) (op d s n m : Int) (st' : St) (hop : op = 32 ∨ op = 33 ∨ op = 34 ∨ condP op) (A : ∀ W, Sits W g db cap vi vo vc st → Calls Try.prog 59 #[at0 g, .agg #[.int .i64 op, .int .i64 d, .int .i64 s, .int .u16 n]] W (Goes g db cap vi vo vc W (.tuple #[]) st')) (hm : m = 8 ∨ m = 16) (n0 : 0 ≤ n) (n1 : n ≤ 65535) (w : World) (h : Sits w g db cap vi vo vc st)
    (hof : ∀ w, Calls Try.prog 53 #[.agg #[.int .i64 op, .int .i64 d, .int .i64 s, .int .u16 n]] w fun e w' => e = .returned (.int .u64 m) ∧ Below w.heap.size w w') :
    Calls Try.prog 40 #[at0 g, .agg #[.int .i64 op, .int .i64 d, .int .i64 s, .int .u16 n]] w (Goes g db cap vi vo vc w (.tuple #[]) (st')) := by
  have hmf : ∀ (fn : Fn) (first cap : Array Value) (w : World), (Instr.makeFunc fn first cap).run Try.prog w = .ok (.func fn first cap) w := fun _ _ _ _ => rfl
  obtain ⟨oc0, oi0⟩ := boxes w g op d s n
  go_enter Try.func40, Try.ntmps40
  go_wp2_with (first
    | (go_at_call 53; with_reducible refine (hof _).mono ?_; rintro e w1 ⟨rfl, hb1⟩; have oc1 := oc0.below hb1; have oi1 := oi0.below hb1; have kc1 := oc1.cell 0; have ki1 := own4c oi1; have hlt1 : w.heap.size + 1 < w1.heap.size := oi1.lt)
    | (go_at_call 58; with_reducible refine (jumps_yes op d s n hop _).mono ?_; rintro e w2 ⟨rfl, hb2⟩; have oc2 := (oc1.alloc (Obj.cells #[Value.int IntKind.u64 m] 106)).below hb2; have oi2 := (oi1.alloc (Obj.cells #[Value.int IntKind.u64 m] 106)).below hb2; have ow2 := (own_new w1 #[Value.int IntKind.u64 m] 106).below hb2; have kc2 := oc2.cell 0; have ki2 := own4c oi2; have kw2 := ow2.cell 0))
  have hb02 : Below w.heap.size w w2 := bthen hb2 (balloc (bthen hb1 (balloc (balloc (Below.refl _ _) _) _)) _)
  have S2 := h.below hb02
  have K2 : Caught w2 w.heap.size (w.heap.size + 1) w1.heap.size g op d s n m := ⟨kc2, ki2.1, ki2.2.1, ki2.2.2.1, ki2.2.2.2, kw2⟩
  have hg : g < w.heap.size := h.m.lt
  have hdb : db < w.heap.size := h.d.lt
  have np : ¬ two g db w.heap.size := by unfold two; omega
  have nq : ¬ two g db (w.heap.size + 1) := by unfold two; omega
  have nt : ¬ two g db w1.heap.size := by unfold two; omega
  have G := A w2 S2
  clear A
  go_wp2_with fail
  refine G.mono ?_
  rintro e wn ⟨rfl, Sn, Tn⟩
  go_wp2
  go_end0
  exact ⟨rfl, Sn, (Turn.of hb02).trans Tn⟩

end Go.Proofs.Ytbhkndblolegaaa
