/- The walks of cpu86's does: ROL to RCR, NOT, XCHG, PUSH, POP. -/
import Derived.Test.YtbhkndblolegaaaCl
import Derived.Deep.QuietTactic
import Derived.BigQuiet
import Derived.Deep.RegionHeld3
import Derived.Deep.CutRange
namespace Go.Proofs.Ytbhkndblolegaaa
open Go.RowKit
set_option linter.unusedVariables false
set_option linter.unusedSimpArgs false

theorem Goes.from {g db cap : Nat} {vi vo vc v : Value} {w w2 : World} {s' : St} {e : Ending} {w' : World} (h : Goes g db cap vi vo vc w v s' e w') (T : Turn (two g db) w2 w) : e = .returned v ∧ Sits w' g db cap vi vo vc s' ∧ Turn (two g db) w2 w' := ⟨h.1, h.2.1, T.trans h.2.2⟩
def setC (r : Rg) (c : Bool) : Rg := { r with F := { r.F with c := c } }
theorem setC_ok {r : Rg} (h : r.Ok) (c : Bool) : (setC r c).Ok := ⟨h.lo, h.hi, h.ip0, h.ip1⟩
theorem sits_C {w : World} {g db cap : Nat} {vi vo vc : Value} {s : St} (h : Sits w g db cap vi vo vc s) (c : Bool) :
    Sits (w.setCell ⟨g, 12, none⟩ (.bool c)) g db cap vi vo vc { s with r := setC s.r c } ∧ Turn (one g) w (w.setCell ⟨g, 12, none⟩ (.bool c)) :=
  have T : Turn (one g) w (w.setCell ⟨g, 12, none⟩ (.bool c)) := .setCell (S := one g) (.inl rfl) (.refl _ _)
  ⟨h.regs (own_eq (h.m.set 12 _) (by simp [cellsC, setC])) (setC_ok h.ok.r c) T, T⟩
theorem turn_state (g db cap : Nat) (vi vo vc : Value) (st : St) (k v m : Int) (k0 : 0 ≤ k) (k1 : k ≤ 3) (v0 : 0 ≤ v) (v1 : v ≤ (if m = 8 then 255 else 65535)) (hm : m = 8 ∨ m = 16) (w : World) (h : Sits w g db cap vi vo vc st) :
    Calls Try.prog 63 #[at0 g, .int .i64 k, .int .u16 v, .int .u64 m] w (Goes g db cap vi vo vc w (.int .u16 (turnV k v st.r.F.c m)) { st with r := setC st.r (turnO k v m) }) := by
  refine (turn_any g k v m k0 k1 v0 v1 hm w st.r.F.c (mach_cells h.m).fc (h.m.frozen 12)).mono ?_
  rintro e w' ⟨rfl, rfl⟩
  have P := sits_C h (turnO k v m)
  exact ⟨rfl, P.1, turn_g P.2⟩
theorem turnV_lo (k v m : Int) (c : Bool) (hm : m = 8 ∨ m = 16) (v0 : 0 ≤ v) (v1 : v ≤ (if m = 8 then 255 else 65535)) : 0 ≤ turnV k v c m ∧ turnV k v c m ≤ 65535 := by
  have h := flagsV_lo m (v * 2 + cb (turnI k v c m))
  have c0 := cb_lo (turnI k v c m)
  have c1 := cb_hi (turnI k v c m)
  have e : cb (turnI k v c m) = 0 ∨ cb (turnI k v c m) = 1 := by omega
  unfold turnV topL
  split
  · exact h
  · clear h
    rcases hm with rfl | rfl <;> simp at v1 <;> rcases e with e | e <;> rw [e] <;> simp <;> omega
theorem not16 (v : Int) (h0 : 0 ≤ v) (h1 : v ≤ 65535) : bits BinOp.xor IntKind.u16 IntKind.u16.max v = 65535 - v := by
  have e : IntKind.u16.max = 65535 := by decide
  rw [e]
  obtain ⟨x, rfl⟩ := Int.eq_ofNat_of_zero_le h0
  show IntKind.u16.wrap ((BitVec.ofInt 16 65535 ^^^ BitVec.ofInt 16 (x : Int)).toNat : Int) = _
  rw [show BitVec.ofInt 16 65535 = BitVec.allOnes 16 by decide, BitVec.allOnes_xor, BitVec.toNat_not, BitVec.ofInt_natCast, BitVec.toNat_ofNat, Nat.mod_eq_of_lt (by omega)]
  simp only [IntKind.wrap, IntKind.bits, IntKind.signed]
  simp
  omega

set_option maxRecDepth 100000 in
set_option maxHeartbeats 4000000 in
theorem does_12 (g db cap : Nat) (vi vo vc : Value) (st : St) (op d s n m : Int) (hop : 12 ≤ op) (hop2 : op ≤ 15) (hm : m = 8 ∨ m = 16) (d0 : 1 ≤ d) (d1 : d ≤ 19) (hv : getL st d n m ≤ (if m = 8 then 255 else 65535)) (n0 : 0 ≤ n) (n1 : n ≤ 65535) (w : World) (h : Sits w g db cap vi vo vc st)
    (hof : ∀ w, Calls Try.prog 53 #[.agg #[.int .i64 op, .int .i64 d, .int .i64 s, .int .u16 n]] w fun e w' => e = .returned (.int .u64 m) ∧ Below w.heap.size w w') :
    Calls Try.prog 40 #[at0 g, .agg #[.int .i64 op, .int .i64 d, .int .i64 s, .int .u16 n]] w (Goes g db cap vi vo vc w (.tuple #[]) (setL { st with r := setC st.r (turnO (op - 12) (getL st d n m) m) } d n (turnV (op - 12) (getL st d n m) st.r.F.c m) m)) := by
  have hmf : ∀ (fn : Fn) (first cap : Array Value) (w : World), (Instr.makeFunc fn first cap).run Try.prog w = .ok (.func fn first cap) w := fun _ _ _ _ => rfl
  obtain ⟨oc0, oi0⟩ := boxes w g op d s n
  go_enter Try.func40, Try.ntmps40
  go_wp2_with (first
    | (go_at_call 53; with_reducible refine (hof _).mono ?_; rintro e w1 ⟨rfl, hb1⟩; have oc1 := oc0.below hb1; have oi1 := oi0.below hb1; have kc1 := oc1.cell 0; have ki1 := own4c oi1; have hlt1 : w.heap.size + 1 < w1.heap.size := oi1.lt)
    | (go_at_call 58; with_reducible refine (jumps_no op d s n (by omega) _).mono ?_; rintro e w2 ⟨rfl, hb2⟩; have oc2 := (oc1.alloc (Obj.cells #[Value.int IntKind.u64 m] 106)).below hb2; have oi2 := (oi1.alloc (Obj.cells #[Value.int IntKind.u64 m] 106)).below hb2; have ow2 := (own_new w1 #[Value.int IntKind.u64 m] 106).below hb2; have kc2 := oc2.cell 0; have ki2 := own4c oi2; have kw2 := ow2.cell 0))
  have hb02 : Below w.heap.size w w2 := bthen hb2 (balloc (bthen hb1 (balloc (balloc (Below.refl _ _) _) _)) _)
  have S2 := h.below hb02
  have K2 : Caught w2 w.heap.size (w.heap.size + 1) w1.heap.size g op d s n m := ⟨kc2, ki2.1, ki2.2.1, ki2.2.2.1, ki2.2.2.2, kw2⟩
  have hg : g < w.heap.size := h.m.lt
  have hdb : db < w.heap.size := h.d.lt
  have np : ¬ two g db w.heap.size := by unfold two; omega
  have nq : ¬ two g db (w.heap.size + 1) := by unfold two; omega
  have nt : ¬ two g db w1.heap.size := by unfold two; omega
  have hwo : IntKind.i64.wrap (op - 12) = op - 12 := by rw [IntKind.wrap_i64]; omega
  have va := getL_lo h.ok d n m n0 n1
  have V0 := turnV_lo (op - 12) (getL st d n m) m st.r.F.c hm va.1 hv
  have GD := getc_any g db cap vi vo vc st w.heap.size (w.heap.size + 1) w1.heap.size d op d s n m hm d0 (by omega) n0 n1 w2.drew (S2.drewN 1) (K2.below (bdrewN (Below.refl _ _) 1))
  have GT := fun j => (turn_state g db cap vi vo vc st (op - 12) (getL st d n m) m (by omega) (by omega) va.1 hv hm (w2.drewN j) (S2.drewN j)).mono fun e w' q => Goes.from q ((Turn.refl (two g db) w2).drewN j)
  have GS := fun W (hS : Sits W g db cap vi vo vc { st with r := setC st.r (turnO (op - 12) (getL st d n m) m) }) (hT : Turn (two g db) w2 W) => (setc_any g db cap vi vo vc _ w.heap.size (w.heap.size + 1) w1.heap.size d (turnV (op - 12) (getL st d n m) st.r.F.c m) op d s n m hm d0 d1 n0 n1 V0.1 V0.2 W hS (K2.turn hT np nq nt)).mono fun e w' q => Goes.from q hT
  have kk := fun W (hT : Turn (two g db) w2 W) => K2.turn hT np nq nt
  clear K2 S2 kc2 ki2 kw2 oc2 oi2 ow2 oc1 oi1 kc1 ki1 oc0 oi0 hb1 hb2 hof hmf
  go_region_held3 (fun W => (W.cell? ⟨w.heap.size, 0, none⟩ = some (at0 g) ∧ W.cell? ⟨w.heap.size + 1, 0, none⟩ = some (.int .i64 op) ∧ W.cell? ⟨w.heap.size + 1, 1, none⟩ = some (.int .i64 d) ∧ W.cell? ⟨w.heap.size + 1, 2, none⟩ = some (.int .i64 s) ∧ W.cell? ⟨w.heap.size + 1, 3, none⟩ = some (.int .u16 n) ∧ W.cell? ⟨w1.heap.size, 0, none⟩ = some (.int .u64 m)) ∧ Turn (two g db) w2 W)
    ((refine (fun hT => ⟨⟨(kk _ hT).c, (kk _ hT).i0, (kk _ hT).i1, (kk _ hT).i2, (kk _ hT).i3, (kk _ hT).w⟩, hT⟩) ?_; (first | with_reducible exact Turn.refl _ _ | with_reducible exact (Turn.refl _ _).drew | with_reducible exact (Turn.refl _ _).drewN _ | with_reducible assumption)))
    (first
      | (go_simp; go_at_call 54; with_reducible refine GD.mono ?_; rintro e wn ⟨rfl, j, rfl⟩)
      | (go_simp; go_at_call 63; with_reducible refine (GT _).mono ?_; rintro e wn ⟨rfl, Sm, Tm⟩)
      | (go_simp; go_at_call 56; (with_reducible refine (GS _ ?_ ?_).mono ?_); (focus with_reducible assumption); (focus with_reducible assumption); rintro e wn ⟨rfl, Sn, Tn⟩))
  go_wp2
  go_end0
  exact ⟨rfl, Sn, (Turn.of hb02).trans Tn⟩

set_option maxRecDepth 100000 in
set_option maxHeartbeats 4000000 in
theorem does_16 (g db cap : Nat) (vi vo vc : Value) (st : St) (d s n m : Int) (hm : m = 8 ∨ m = 16) (d0 : 1 ≤ d) (d1 : d ≤ 19) (n0 : 0 ≤ n) (n1 : n ≤ 65535) (w : World) (h : Sits w g db cap vi vo vc st)
    (hof : ∀ w, Calls Try.prog 53 #[.agg #[.int .i64 16, .int .i64 d, .int .i64 s, .int .u16 n]] w fun e w' => e = .returned (.int .u64 m) ∧ Below w.heap.size w w') :
    Calls Try.prog 40 #[at0 g, .agg #[.int .i64 16, .int .i64 d, .int .i64 s, .int .u16 n]] w (Goes g db cap vi vo vc w (.tuple #[]) (setL st d n (65535 - getL st d n m) m)) := by
  have hmf : ∀ (fn : Fn) (first cap : Array Value) (w : World), (Instr.makeFunc fn first cap).run Try.prog w = .ok (.func fn first cap) w := fun _ _ _ _ => rfl
  obtain ⟨oc0, oi0⟩ := boxes w g 16 d s n
  go_enter Try.func40, Try.ntmps40
  go_wp2_with (first
    | (go_at_call 53; with_reducible refine (hof _).mono ?_; rintro e w1 ⟨rfl, hb1⟩; have oc1 := oc0.below hb1; have oi1 := oi0.below hb1; have kc1 := oc1.cell 0; have ki1 := own4c oi1; have hlt1 : w.heap.size + 1 < w1.heap.size := oi1.lt)
    | (go_at_call 58; with_reducible refine (jumps_no 16 d s n (by omega) _).mono ?_; rintro e w2 ⟨rfl, hb2⟩; have oc2 := (oc1.alloc (Obj.cells #[Value.int IntKind.u64 m] 106)).below hb2; have oi2 := (oi1.alloc (Obj.cells #[Value.int IntKind.u64 m] 106)).below hb2; have ow2 := (own_new w1 #[Value.int IntKind.u64 m] 106).below hb2; have kc2 := oc2.cell 0; have ki2 := own4c oi2; have kw2 := ow2.cell 0))
  have hb02 : Below w.heap.size w w2 := bthen hb2 (balloc (bthen hb1 (balloc (balloc (Below.refl _ _) _) _)) _)
  have S2 := h.below hb02
  have K2 : Caught w2 w.heap.size (w.heap.size + 1) w1.heap.size g 16 d s n m := ⟨kc2, ki2.1, ki2.2.1, ki2.2.2.1, ki2.2.2.2, kw2⟩
  have hg : g < w.heap.size := h.m.lt
  have hdb : db < w.heap.size := h.d.lt
  have np : ¬ two g db w.heap.size := by unfold two; omega
  have nq : ¬ two g db (w.heap.size + 1) := by unfold two; omega
  have nt : ¬ two g db w1.heap.size := by unfold two; omega
  have va := getL_lo h.ok d n m n0 n1
  have hx := not16 (getL st d n m) va.1 va.2
  have hx2 : bits BinOp.xor IntKind.u16 (if IntKind.u16.signed = true then -1 else IntKind.u16.max) (getL st d n m) = 65535 - getL st d n m := hx
  have GD := getc_any g db cap vi vo vc st w.heap.size (w.heap.size + 1) w1.heap.size d 16 d s n m hm d0 (by omega) n0 n1 w2.drew (S2.drewN 1) (K2.below (bdrewN (Below.refl _ _) 1))
  have GS := fun j => (setc_any g db cap vi vo vc _ w.heap.size (w.heap.size + 1) w1.heap.size d (65535 - getL st d n m) 16 d s n m hm d0 d1 n0 n1 (by omega) (by omega) (w2.drewN j) (S2.drewN j) (K2.below (bdrewN (Below.refl _ _) j))).mono fun e w' q => Goes.from q ((Turn.refl (two g db) w2).drewN j)
  have kk := fun W (hT : Turn (two g db) w2 W) => K2.turn hT np nq nt
  clear K2 S2 kc2 ki2 kw2 oc2 oi2 ow2 oc1 oi1 kc1 ki1 oc0 oi0 hb1 hb2 hof hmf
  go_region_held3 (fun W => (W.cell? ⟨w.heap.size, 0, none⟩ = some (at0 g) ∧ W.cell? ⟨w.heap.size + 1, 0, none⟩ = some (.int .i64 16) ∧ W.cell? ⟨w.heap.size + 1, 1, none⟩ = some (.int .i64 d) ∧ W.cell? ⟨w.heap.size + 1, 2, none⟩ = some (.int .i64 s) ∧ W.cell? ⟨w.heap.size + 1, 3, none⟩ = some (.int .u16 n) ∧ W.cell? ⟨w1.heap.size, 0, none⟩ = some (.int .u64 m)) ∧ Turn (two g db) w2 W)
    ((refine (fun hT => ⟨⟨(kk _ hT).c, (kk _ hT).i0, (kk _ hT).i1, (kk _ hT).i2, (kk _ hT).i3, (kk _ hT).w⟩, hT⟩) ?_; (first | with_reducible exact Turn.refl _ _ | with_reducible exact (Turn.refl _ _).drew | with_reducible exact (Turn.refl _ _).drewN _ | with_reducible assumption)))
    (first
      | (go_simp; go_at_call 54; with_reducible refine GD.mono ?_; rintro e wn ⟨rfl, j, rfl⟩)
      | (go_simp; go_at_call 56; with_reducible refine (GS _).mono ?_; rintro e wn ⟨rfl, Sn, Tn⟩))
  go_wp2
  go_end0
  exact ⟨rfl, Sn, (Turn.of hb02).trans Tn⟩

set_option maxRecDepth 100000 in
set_option maxHeartbeats 4000000 in
theorem does_17 (g db cap : Nat) (vi vo vc : Value) (st : St) (d s n m : Int) (hm : m = 8 ∨ m = 16) (d0 : 1 ≤ d) (d1 : d ≤ 19) (s0 : 1 ≤ s) (s1 : s ≤ 19) (n0 : 0 ≤ n) (n1 : n ≤ 65535) (w : World) (h : Sits w g db cap vi vo vc st)
    (hof : ∀ w, Calls Try.prog 53 #[.agg #[.int .i64 17, .int .i64 d, .int .i64 s, .int .u16 n]] w fun e w' => e = .returned (.int .u64 m) ∧ Below w.heap.size w w') :
    Calls Try.prog 40 #[at0 g, .agg #[.int .i64 17, .int .i64 d, .int .i64 s, .int .u16 n]] w (Goes g db cap vi vo vc w (.tuple #[]) (setL (setL st d n (getL st s n m) m) s n (getL st d n m) m)) := by
  have hmf : ∀ (fn : Fn) (first cap : Array Value) (w : World), (Instr.makeFunc fn first cap).run Try.prog w = .ok (.func fn first cap) w := fun _ _ _ _ => rfl
  obtain ⟨oc0, oi0⟩ := boxes w g 17 d s n
  go_enter Try.func40, Try.ntmps40
  go_wp2_with (first
    | (go_at_call 53; with_reducible refine (hof _).mono ?_; rintro e w1 ⟨rfl, hb1⟩; have oc1 := oc0.below hb1; have oi1 := oi0.below hb1; have kc1 := oc1.cell 0; have ki1 := own4c oi1; have hlt1 : w.heap.size + 1 < w1.heap.size := oi1.lt)
    | (go_at_call 58; with_reducible refine (jumps_no 17 d s n (by omega) _).mono ?_; rintro e w2 ⟨rfl, hb2⟩; have oc2 := (oc1.alloc (Obj.cells #[Value.int IntKind.u64 m] 106)).below hb2; have oi2 := (oi1.alloc (Obj.cells #[Value.int IntKind.u64 m] 106)).below hb2; have ow2 := (own_new w1 #[Value.int IntKind.u64 m] 106).below hb2; have kc2 := oc2.cell 0; have ki2 := own4c oi2; have kw2 := ow2.cell 0))
  have hb02 : Below w.heap.size w w2 := bthen hb2 (balloc (bthen hb1 (balloc (balloc (Below.refl _ _) _) _)) _)
  have S2 := h.below hb02
  have K2 : Caught w2 w.heap.size (w.heap.size + 1) w1.heap.size g 17 d s n m := ⟨kc2, ki2.1, ki2.2.1, ki2.2.2.1, ki2.2.2.2, kw2⟩
  have hg : g < w.heap.size := h.m.lt
  have hdb : db < w.heap.size := h.d.lt
  have np : ¬ two g db w.heap.size := by unfold two; omega
  have nq : ¬ two g db (w.heap.size + 1) := by unfold two; omega
  have nt : ¬ two g db w1.heap.size := by unfold two; omega
  have va := getL_lo h.ok d n m n0 n1
  have vb := getL_lo h.ok s n m n0 n1
  have GD := fun j => getc_any g db cap vi vo vc st w.heap.size (w.heap.size + 1) w1.heap.size d 17 d s n m hm d0 (by omega) n0 n1 (w2.drewN j) (S2.drewN j) (K2.below (bdrewN (Below.refl _ _) j))
  have GE := fun j => getc_any g db cap vi vo vc st w.heap.size (w.heap.size + 1) w1.heap.size s 17 d s n m hm s0 (by omega) n0 n1 (w2.drewN j) (S2.drewN j) (K2.below (bdrewN (Below.refl _ _) j))
  have GS := fun j => (setc_any g db cap vi vo vc _ w.heap.size (w.heap.size + 1) w1.heap.size d (getL st s n m) 17 d s n m hm d0 d1 n0 n1 vb.1 vb.2 (w2.drewN j) (S2.drewN j) (K2.below (bdrewN (Below.refl _ _) j))).mono fun e w' q => Goes.from q ((Turn.refl (two g db) w2).drewN j)
  have GR := fun W (hS : Sits W g db cap vi vo vc (setL st d n (getL st s n m) m)) (hT : Turn (two g db) w2 W) => (setc_any g db cap vi vo vc _ w.heap.size (w.heap.size + 1) w1.heap.size s (getL st d n m) 17 d s n m hm s0 s1 n0 n1 va.1 va.2 W hS (K2.turn hT np nq nt)).mono fun e w' q => Goes.from q hT
  have kk := fun W (hT : Turn (two g db) w2 W) => K2.turn hT np nq nt
  have K2' := Lib.hid K2
  have q1 := ki2.2.1
  have q2 := ki2.2.2.1
  clear K2 S2 oc2 oi2 ow2 oc1 oi1 kc1 ki1 oc0 oi0 hb1 hb2 hof hmf
  generalize getL st d n m = X at *
  generalize getL st s n m = Y at *
  go_quiet (first
    | (go_at_call 54; with_reducible exact Calls.quiet_of (GD _))
    | (go_at_call 54; with_reducible exact Calls.quiet_of (GE _)))
  clear GD GE
  go_wp2_with fail
  refine (GS _).mono ?_
  rintro e wn ⟨rfl, Sm, Tm⟩
  have kn := kk _ Tm
  obtain ⟨n_c, n_0, n_1, n_2, n_3, n_w⟩ := kn
  clear GS
  go_wp2_with fail
  refine (GR _ Sm Tm).mono ?_
  rintro e wm ⟨rfl, Sn, Tn⟩
  go_wp2
  go_end0
  exact ⟨rfl, Sn, (Turn.of hb02).trans Tn⟩

set_option maxRecDepth 100000 in
set_option maxHeartbeats 4000000 in
theorem does_18 (g db cap : Nat) (vi vo vc : Value) (st : St) (d s n m : Int) (hm : m = 8 ∨ m = 16) (d0 : 1 ≤ d) (d1 : d ≤ 20) (n0 : 0 ≤ n) (n1 : n ≤ 65535) (w : World) (h : Sits w g db cap vi vo vc st)
    (hof : ∀ w, Calls Try.prog 53 #[.agg #[.int .i64 18, .int .i64 d, .int .i64 s, .int .u16 n]] w fun e w' => e = .returned (.int .u64 m) ∧ Below w.heap.size w w') :
    Calls Try.prog 40 #[at0 g, .agg #[.int .i64 18, .int .i64 d, .int .i64 s, .int .u16 n]] w (Goes g db cap vi vo vc w (.tuple #[]) (pushL st (getL st d n m))) := by
  have hmf : ∀ (fn : Fn) (first cap : Array Value) (w : World), (Instr.makeFunc fn first cap).run Try.prog w = .ok (.func fn first cap) w := fun _ _ _ _ => rfl
  obtain ⟨oc0, oi0⟩ := boxes w g 18 d s n
  go_enter Try.func40, Try.ntmps40
  go_wp2_with (first
    | (go_at_call 53; with_reducible refine (hof _).mono ?_; rintro e w1 ⟨rfl, hb1⟩; have oc1 := oc0.below hb1; have oi1 := oi0.below hb1; have kc1 := oc1.cell 0; have ki1 := own4c oi1; have hlt1 : w.heap.size + 1 < w1.heap.size := oi1.lt)
    | (go_at_call 58; with_reducible refine (jumps_no 18 d s n (by omega) _).mono ?_; rintro e w2 ⟨rfl, hb2⟩; have oc2 := (oc1.alloc (Obj.cells #[Value.int IntKind.u64 m] 106)).below hb2; have oi2 := (oi1.alloc (Obj.cells #[Value.int IntKind.u64 m] 106)).below hb2; have ow2 := (own_new w1 #[Value.int IntKind.u64 m] 106).below hb2; have kc2 := oc2.cell 0; have ki2 := own4c oi2; have kw2 := ow2.cell 0))
  have hb02 : Below w.heap.size w w2 := bthen hb2 (balloc (bthen hb1 (balloc (balloc (Below.refl _ _) _) _)) _)
  have S2 := h.below hb02
  have K2 : Caught w2 w.heap.size (w.heap.size + 1) w1.heap.size g 18 d s n m := ⟨kc2, ki2.1, ki2.2.1, ki2.2.2.1, ki2.2.2.2, kw2⟩
  have hg : g < w.heap.size := h.m.lt
  have hdb : db < w.heap.size := h.d.lt
  have np : ¬ two g db w.heap.size := by unfold two; omega
  have nq : ¬ two g db (w.heap.size + 1) := by unfold two; omega
  have nt : ¬ two g db w1.heap.size := by unfold two; omega
  have va := getL_lo h.ok d n m n0 n1
  have GD := getc_any g db cap vi vo vc st w.heap.size (w.heap.size + 1) w1.heap.size d 18 d s n m hm d0 d1 n0 n1 w2.drew (S2.drewN 1) (K2.below (bdrewN (Below.refl _ _) 1))
  have GS := fun j => (push_any g db cap vi vo vc st (getL st d n m) va.1 va.2 (w2.drewN j) (S2.drewN j)).mono fun e w' q => Goes.from q ((Turn.refl (two g db) w2).drewN j)
  have kk := fun W (hT : Turn (two g db) w2 W) => K2.turn hT np nq nt
  clear K2 S2 kc2 ki2 kw2 oc2 oi2 ow2 oc1 oi1 kc1 ki1 oc0 oi0 hb1 hb2 hof hmf
  go_region_held3 (fun W => (W.cell? ⟨w.heap.size, 0, none⟩ = some (at0 g) ∧ W.cell? ⟨w.heap.size + 1, 0, none⟩ = some (.int .i64 18) ∧ W.cell? ⟨w.heap.size + 1, 1, none⟩ = some (.int .i64 d) ∧ W.cell? ⟨w.heap.size + 1, 2, none⟩ = some (.int .i64 s) ∧ W.cell? ⟨w.heap.size + 1, 3, none⟩ = some (.int .u16 n) ∧ W.cell? ⟨w1.heap.size, 0, none⟩ = some (.int .u64 m)) ∧ Turn (two g db) w2 W)
    ((refine (fun hT => ⟨⟨(kk _ hT).c, (kk _ hT).i0, (kk _ hT).i1, (kk _ hT).i2, (kk _ hT).i3, (kk _ hT).w⟩, hT⟩) ?_; (first | with_reducible exact Turn.refl _ _ | with_reducible exact (Turn.refl _ _).drew | with_reducible exact (Turn.refl _ _).drewN _ | with_reducible assumption)))
    (first
      | (go_simp; go_at_call 54; with_reducible refine GD.mono ?_; rintro e wn ⟨rfl, j, rfl⟩)
      | (go_simp; go_at_call 64; with_reducible refine (GS _).mono ?_; rintro e wn ⟨rfl, Sn, Tn⟩))
  go_wp2
  go_end0
  exact ⟨rfl, Sn, (Turn.of hb02).trans Tn⟩

set_option maxRecDepth 100000 in
set_option maxHeartbeats 4000000 in
theorem does_19 (g db cap : Nat) (vi vo vc : Value) (st : St) (d s n m : Int) (hm : m = 8 ∨ m = 16) (d0 : 1 ≤ d) (d1 : d ≤ 19) (n0 : 0 ≤ n) (n1 : n ≤ 65535) (w : World) (h : Sits w g db cap vi vo vc st)
    (hof : ∀ w, Calls Try.prog 53 #[.agg #[.int .i64 19, .int .i64 d, .int .i64 s, .int .u16 n]] w fun e w' => e = .returned (.int .u64 m) ∧ Below w.heap.size w w') :
    Calls Try.prog 40 #[at0 g, .agg #[.int .i64 19, .int .i64 d, .int .i64 s, .int .u16 n]] w (Goes g db cap vi vo vc w (.tuple #[]) (setL (popL st) d n (wordL st.D (st.r.R 4).toNat) m)) := by
  have hmf : ∀ (fn : Fn) (first cap : Array Value) (w : World), (Instr.makeFunc fn first cap).run Try.prog w = .ok (.func fn first cap) w := fun _ _ _ _ => rfl
  obtain ⟨oc0, oi0⟩ := boxes w g 19 d s n
  go_enter Try.func40, Try.ntmps40
  go_wp2_with (first
    | (go_at_call 53; with_reducible refine (hof _).mono ?_; rintro e w1 ⟨rfl, hb1⟩; have oc1 := oc0.below hb1; have oi1 := oi0.below hb1; have kc1 := oc1.cell 0; have ki1 := own4c oi1; have hlt1 : w.heap.size + 1 < w1.heap.size := oi1.lt)
    | (go_at_call 58; with_reducible refine (jumps_no 19 d s n (by omega) _).mono ?_; rintro e w2 ⟨rfl, hb2⟩; have oc2 := (oc1.alloc (Obj.cells #[Value.int IntKind.u64 m] 106)).below hb2; have oi2 := (oi1.alloc (Obj.cells #[Value.int IntKind.u64 m] 106)).below hb2; have ow2 := (own_new w1 #[Value.int IntKind.u64 m] 106).below hb2; have kc2 := oc2.cell 0; have ki2 := own4c oi2; have kw2 := ow2.cell 0))
  have hb02 : Below w.heap.size w w2 := bthen hb2 (balloc (bthen hb1 (balloc (balloc (Below.refl _ _) _) _)) _)
  have S2 := h.below hb02
  have K2 : Caught w2 w.heap.size (w.heap.size + 1) w1.heap.size g 19 d s n m := ⟨kc2, ki2.1, ki2.2.1, ki2.2.2.1, ki2.2.2.2, kw2⟩
  have hg : g < w.heap.size := h.m.lt
  have hdb : db < w.heap.size := h.d.lt
  have np : ¬ two g db w.heap.size := by unfold two; omega
  have nq : ¬ two g db (w.heap.size + 1) := by unfold two; omega
  have nt : ¬ two g db w1.heap.size := by unfold two; omega
  have va := wordL_lo h.ok.D (st.r.R 4).toNat
  have GP := (pop_any g db cap vi vo vc st w2.drew (S2.drewN 1)).mono fun e w' q => Goes.from q ((Turn.refl (two g db) w2).drewN 1)
  have GS := fun W (hS : Sits W g db cap vi vo vc (popL st)) (hT : Turn (two g db) w2 W) => (setc_any g db cap vi vo vc _ w.heap.size (w.heap.size + 1) w1.heap.size d (wordL st.D (st.r.R 4).toNat) 19 d s n m hm d0 d1 n0 n1 va.1 va.2 W hS (K2.turn hT np nq nt)).mono fun e w' q => Goes.from q hT
  generalize wordL st.D (st.r.R 4).toNat = X at *
  have kk := fun W (hT : Turn (two g db) w2 W) => K2.turn hT np nq nt
  clear K2 S2 kc2 ki2 kw2 oc2 oi2 ow2 oc1 oi1 kc1 ki1 oc0 oi0 hb1 hb2 hof hmf
  go_region_held3 (fun W => (W.cell? ⟨w.heap.size, 0, none⟩ = some (at0 g) ∧ W.cell? ⟨w.heap.size + 1, 0, none⟩ = some (.int .i64 19) ∧ W.cell? ⟨w.heap.size + 1, 1, none⟩ = some (.int .i64 d) ∧ W.cell? ⟨w.heap.size + 1, 2, none⟩ = some (.int .i64 s) ∧ W.cell? ⟨w.heap.size + 1, 3, none⟩ = some (.int .u16 n) ∧ W.cell? ⟨w1.heap.size, 0, none⟩ = some (.int .u64 m)) ∧ Turn (two g db) w2 W)
    ((refine (fun hT => ⟨⟨(kk _ hT).c, (kk _ hT).i0, (kk _ hT).i1, (kk _ hT).i2, (kk _ hT).i3, (kk _ hT).w⟩, hT⟩) ?_; (first | with_reducible exact Turn.refl _ _ | with_reducible exact (Turn.refl _ _).drew | with_reducible exact (Turn.refl _ _).drewN _ | with_reducible assumption)))
    (first
      | (go_simp; go_at_call 65; with_reducible refine GP.mono ?_; rintro e wn ⟨rfl, Sm, Tm⟩)
      | (go_simp; go_at_call 56; (with_reducible refine (GS _ ?_ ?_).mono ?_); (focus with_reducible assumption); (focus with_reducible assumption); rintro e wn ⟨rfl, Sn, Tn⟩))
  go_wp2
  go_end0
  exact ⟨rfl, Sn, (Turn.of hb02).trans Tn⟩

end Go.Proofs.Ytbhkndblolegaaa
