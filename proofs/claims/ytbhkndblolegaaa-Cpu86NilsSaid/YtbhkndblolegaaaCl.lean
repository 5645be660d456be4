/- The walks of cpu86's does: ADD to CMP. -/
import Derived.Test.YtbhkndblolegaaaCk
import Derived.Deep.RegionHeld3
import Derived.Deep.CutRange
namespace Go.Proofs.Ytbhkndblolegaaa
open Go.RowKit
set_option linter.unusedVariables false
set_option linter.unusedSimpArgs false

theorem below_from {w w1 : World} {j : Nat} (T : Below (w.drewN j).heap.size (w.drewN j) w1) : Below w.heap.size w w1 := bthen T (bdrewN (Below.refl _ _) j)
theorem getc_below (g db cap : Nat) (vi vo vc : Value) (st : St) (p q t : Nat) (code op d s n m : Int) (hm : m = 8 ∨ m = 16) (c0 : 1 ≤ code) (c1 : code ≤ 20) (n0 : 0 ≤ n) (n1 : n ≤ 65535) (w W : World) (h : Sits w g db cap vi vo vc st) (k : Caught w p q t g op d s n m) (hB : Below w.heap.size w W) :
    Calls Try.prog 54 #[.int .i64 code, at0 p, at0 q, at0 t] W fun e w' => e = .returned (.int .u16 (getL st code n m)) ∧ ∃ j, w' = W.drewN j :=
  getc_any g db cap vi vo vc st p q t code op d s n m hm c0 c1 n0 n1 W (h.below hB) (k.below hB)
theorem sum_below (g : Nat) (k a b m : Int) (k0 : 0 ≤ k) (k1 : k ≤ 7) (a0 : 0 ≤ a) (a1 : a ≤ 65535) (b0 : 0 ≤ b) (b1 : b ≤ 65535) (hm : m = 8 ∨ m = 16) (w W : World) (c : Bool) (kc : w.cell? ⟨g, 12, none⟩ = some (.bool c)) (hB : Below w.heap.size w W) :
    Calls Try.prog 62 #[at0 g, .int .i64 k, .int .u16 a, .int .u16 b, .int .u64 m] W fun e w' =>
      e = .returned (.tuple #[.int .u16 (flagsV m (sumN k a b c)), (flagsF m (sumN k a b c) (sumA k a b c)).val]) ∧ Below w.heap.size w w' ∧ Below W.heap.size W w' := by
  refine (sum_any g k a b m k0 k1 a0 a1 b0 b1 hm W c (cell_below kc hB)).mono ?_
  rintro e w' ⟨rfl, hb⟩
  exact ⟨rfl, bthen hb hB, hb⟩
theorem set5 {w W : World} {b : Nat} {c0 c1 c2 c3 c4 : Value} {t : TypeId} (o : Own W b #[c0, c1, c2, c3, c4] t) (hB : Below w.heap.size w W) (hb : w.heap.size ≤ b) (v0 v1 v2 v3 v4 : Bool) :
    Own (((((W.setCell ⟨b, 0, none⟩ (.bool v0)).setCell ⟨b, 1, none⟩ (.bool v1)).setCell ⟨b, 2, none⟩ (.bool v2)).setCell ⟨b, 3, none⟩ (.bool v3)).setCell ⟨b, 4, none⟩ (.bool v4)) b #[.bool v0, .bool v1, .bool v2, .bool v3, .bool v4] t ∧
    Below w.heap.size w (((((W.setCell ⟨b, 0, none⟩ (.bool v0)).setCell ⟨b, 1, none⟩ (.bool v1)).setCell ⟨b, 2, none⟩ (.bool v2)).setCell ⟨b, 3, none⟩ (.bool v3)).setCell ⟨b, 4, none⟩ (.bool v4)) :=
  ⟨own_eq (((((o.set 0 _).set 1 _).set 2 _).set 3 _).set 4 _) (by simp), bset hb (bset hb (bset hb (bset hb (bset hb hB))))⟩
def setF (r : Rg) (F : Fl) : Rg := { r with F := F }
theorem setF_ok {r : Rg} (h : r.Ok) (F : Fl) : (setF r F).Ok := ⟨h.lo, h.hi, h.ip0, h.ip1⟩
/-- What ADD to CMP do. -/
def sumS (st : St) (k d s n m : Int) : St :=
  let N := sumN k (getL st d n m) (getL st s n m) st.r.F.c
  let st' : St := { st with r := setF st.r (flagsF m N (sumA k (getL st d n m) (getL st s n m) st.r.F.c)) }
  if k = 7 then st' else setL st' d n (flagsV m N) m
theorem flagsV_lo (m n : Int) : 0 ≤ flagsV m n ∧ flagsV m n ≤ 65535 := by unfold flagsV; split <;> omega

theorem sits_F {w : World} {g db cap : Nat} {vi vo vc : Value} {s : St} (h : Sits w g db cap vi vo vc s) (F : Fl) :
    Sits (((((w.setCell ⟨g, 8, none⟩ (.bool F.s)).setCell ⟨g, 9, none⟩ (.bool F.z)).setCell ⟨g, 10, none⟩ (.bool F.a)).setCell ⟨g, 11, none⟩ (.bool F.p)).setCell ⟨g, 12, none⟩ (.bool F.c)) g db cap vi vo vc { s with r := setF s.r F } ∧
    Turn (one g) w (((((w.setCell ⟨g, 8, none⟩ (.bool F.s)).setCell ⟨g, 9, none⟩ (.bool F.z)).setCell ⟨g, 10, none⟩ (.bool F.a)).setCell ⟨g, 11, none⟩ (.bool F.p)).setCell ⟨g, 12, none⟩ (.bool F.c)) := by
  have T : Turn (one g) w (((((w.setCell ⟨g, 8, none⟩ (.bool F.s)).setCell ⟨g, 9, none⟩ (.bool F.z)).setCell ⟨g, 10, none⟩ (.bool F.a)).setCell ⟨g, 11, none⟩ (.bool F.p)).setCell ⟨g, 12, none⟩ (.bool F.c)) :=
    .setCell (S := one g) (.inl rfl) (.setCell (S := one g) (.inl rfl) (.setCell (S := one g) (.inl rfl) (.setCell (S := one g) (.inl rfl) (.setCell (S := one g) (.inl rfl) (.refl _ _)))))
  exact ⟨h.regs (own_eq (((((h.m.set 8 _).set 9 _).set 10 _).set 11 _).set 12 _) (by simp [cellsC, setF])) (setF_ok h.ok.r F) T, T⟩

set_option maxRecDepth 100000 in
set_option maxHeartbeats 4000000 in
theorem does_2 (g db cap : Nat) (vi vo vc : Value) (st : St) (op d s n m : Int) (hop : 2 ≤ op) (hop2 : op ≤ 8) (hm : m = 8 ∨ m = 16) (d0 : 1 ≤ d) (d1 : d ≤ 19) (s0 : 1 ≤ s) (s1 : s ≤ 20) (n0 : 0 ≤ n) (n1 : n ≤ 65535) (w : World) (h : Sits w g db cap vi vo vc st)
    (hof : ∀ w, Calls Try.prog 53 #[.agg #[.int .i64 op, .int .i64 d, .int .i64 s, .int .u16 n]] w fun e w' => e = .returned (.int .u64 m) ∧ Below w.heap.size w w') :
    Calls Try.prog 40 #[at0 g, .agg #[.int .i64 op, .int .i64 d, .int .i64 s, .int .u16 n]] w (Goes g db cap vi vo vc w (.tuple #[]) (sumS st (op - 2) d s n m)) := by
  have es : sumS st (op - 2) d s n m = setL { st with r := setF st.r (flagsF m (sumN (op - 2) (getL st d n m) (getL st s n m) st.r.F.c) (sumA (op - 2) (getL st d n m) (getL st s n m) st.r.F.c)) } d n (flagsV m (sumN (op - 2) (getL st d n m) (getL st s n m) st.r.F.c)) m := by
    unfold sumS
    rw [if_neg (by omega)]
  rw [es]
  clear es
  obtain ⟨F', hF⟩ : ∃ F', F' = flagsF m (sumN (op - 2) (getL st d n m) (getL st s n m) st.r.F.c) (sumA (op - 2) (getL st d n m) (getL st s n m) st.r.F.c) := ⟨_, rfl⟩
  obtain ⟨V, hV⟩ : ∃ V, V = flagsV m (sumN (op - 2) (getL st d n m) (getL st s n m) st.r.F.c) := ⟨_, rfl⟩
  rw [← hF, ← hV]
  have HF := Lib.hid hF
  have HV := Lib.hid hV
  clear hF hV
  have hmf : ∀ (fn : Fn) (first cap : Array Value) (w : World), (Instr.makeFunc fn first cap).run Try.prog w = .ok (.func fn first cap) w := fun _ _ _ _ => rfl
  obtain ⟨oc0, oi0⟩ := boxes w g op d s n
  go_enter Try.func40, Try.ntmps40
  go_wp2_with (first
    | (go_at_call 53; with_reducible refine (hof _).mono ?_; rintro e w1 ⟨rfl, hb1⟩; have oc1 := oc0.below hb1; have oi1 := oi0.below hb1; have kc1 := oc1.cell 0; have ki1 := own4c oi1; have hlt1 : w.heap.size + 1 < w1.heap.size := oi1.lt)
    | (go_at_call 58; with_reducible refine (jumps_no op d s n (by omega) _).mono ?_; rintro e w2 ⟨rfl, hb2⟩; have oc2 := (oc1.alloc (Obj.cells #[Value.int IntKind.u64 m] 106)).below hb2; have oi2 := (oi1.alloc (Obj.cells #[Value.int IntKind.u64 m] 106)).below hb2; have ow2 := (own_new w1 #[Value.int IntKind.u64 m] 106).below hb2; have kc2 := oc2.cell 0; have ki2 := own4c oi2; have kw2 := ow2.cell 0))
  have hb02 : Below w.heap.size w w2 := bthen hb2 (balloc (bthen hb1 (balloc (balloc (Below.refl _ _) _) _)) _)
  have S2 := h.below hb02
  have K2 : Caught w2 w.heap.size (w.heap.size + 1) w1.heap.size g op d s n m := ⟨kc2, ki2.1, ki2.2.1, ki2.2.2.1, ki2.2.2.2, kw2⟩
  have hg : g < w.heap.size := h.m.lt
  have hdb : db < w.heap.size := h.d.lt
  have np : ¬ two g db w.heap.size := by unfold two; omega
  have nq : ¬ two g db (w.heap.size + 1) := by unfold two; omega
  have nt : ¬ two g db w1.heap.size := by unfold two; omega
  have hwo : IntKind.i64.wrap (op - 2) = op - 2 := by rw [IntKind.wrap_i64]; omega
  have va := getL_lo h.ok d n m n0 n1
  have vb := getL_lo h.ok s n m n0 n1
  have V0 := flagsV_lo m (sumN (op - 2) (getL st d n m) (getL st s n m) st.r.F.c)
  have GD := fun W (hB : Below w2.heap.size w2 W) => getc_below g db cap vi vo vc st w.heap.size (w.heap.size + 1) w1.heap.size d op d s n m hm d0 (by omega) n0 n1 w2 W S2 K2 hB
  have GS := fun W (hB : Below w2.heap.size w2 W) => getc_below g db cap vi vo vc st w.heap.size (w.heap.size + 1) w1.heap.size s op d s n m hm s0 s1 n0 n1 w2 W S2 K2 hB
  have GP := fun W (hB : Below w2.heap.size w2 W) => sum_below g (op - 2) (getL st d n m) (getL st s n m) m (by omega) (by omega) va.1 va.2 vb.1 vb.2 hm w2 W st.r.F.c (mach_cells S2.m).fc hB
  unfold Fl.val at GP
  rw [← HF.out, ← HV.out] at GP
  rw [← HV.out] at V0
  have S2' := Lib.hid S2
  have K2' := Lib.hid K2
  have kk := fun W (hT : Below w2.heap.size w2 W) => K2.below hT
  clear K2 S2 kc2 ki2 kw2 oc2 oi2 ow2 oc1 oi1 kc1 ki1 oc0 oi0 hb1 hb2 hof hmf
  go_cut [8, 9] from 60 to 75 (fun a b wx => ∃ bl, a = .int .u16 V ∧ b = .pointer (some ⟨bl, 0, none⟩) ∧ Own wx bl #[.bool F'.s, .bool F'.z, .bool F'.a, .bool F'.p, .bool F'.c] 44 ∧ Below w2.heap.size w2 wx ∧ w2.heap.size ≤ bl)
  case first =>
    go_region_held3 (fun W => (W.cell? ⟨w.heap.size, 0, none⟩ = some (at0 g) ∧ W.cell? ⟨w.heap.size + 1, 0, none⟩ = some (.int .i64 op) ∧ W.cell? ⟨w.heap.size + 1, 1, none⟩ = some (.int .i64 d) ∧ W.cell? ⟨w.heap.size + 1, 2, none⟩ = some (.int .i64 s) ∧ W.cell? ⟨w.heap.size + 1, 3, none⟩ = some (.int .u16 n) ∧ W.cell? ⟨w1.heap.size, 0, none⟩ = some (.int .u64 m)) ∧ Below w2.heap.size w2 W)
      ((refine (fun hT => ⟨⟨(kk _ hT).c, (kk _ hT).i0, (kk _ hT).i1, (kk _ hT).i2, (kk _ hT).i3, (kk _ hT).w⟩, hT⟩) ?_; (repeat (first | with_reducible exact Below.refl _ _ | with_reducible assumption | with_reducible apply balloc | with_reducible apply bdrew | with_reducible apply bdrewN | (with_reducible apply bset; focus (first | (simp; done) | (simp; omega)))))))
      (first
        | (go_simp; go_at_call 54; (with_reducible refine (GD _ ?_).mono ?_); (focus (repeat (first | with_reducible exact Below.refl _ _ | with_reducible assumption | with_reducible apply balloc | with_reducible apply bdrew | with_reducible apply bdrewN | (with_reducible apply bset; focus (first | (simp; done) | (simp; omega)))))); rintro e wn ⟨rfl, j, rfl⟩)
        | (go_simp; go_at_call 54; (with_reducible refine (GS _ ?_).mono ?_); (focus (repeat (first | with_reducible exact Below.refl _ _ | with_reducible assumption | with_reducible apply balloc | with_reducible apply bdrew | with_reducible apply bdrewN | (with_reducible apply bset; focus (first | (simp; done) | (simp; omega)))))); rintro e wn ⟨rfl, j, rfl⟩)
        | (go_simp; go_at_call 62; (with_reducible refine (GP _ ?_).mono ?_); (focus (repeat (first | with_reducible exact Below.refl _ _ | with_reducible assumption | with_reducible apply balloc | with_reducible apply bdrew | with_reducible apply bdrewN | (with_reducible apply bset; focus (first | (simp; done) | (simp; omega)))))); rintro e wn ⟨rfl, hbn, hbW⟩; have hz := hbn.size; (try (have o5 : Own wn w2.heap.size #[.bool false, .bool false, .bool false, .bool false, .bool false] 44 := (by first | (have q5 := (own_new _ #[Value.bool false, Value.bool false, Value.bool false, Value.bool false, Value.bool false] 44).below hbW; exact q5) | (have q5 := (Own.drewN (own_new _ #[Value.bool false, Value.bool false, Value.bool false, Value.bool false, Value.bool false] 44) _).below hbW; exact q5)); have k5 := o5.five; have f50 := o5.frozen 0; have f51 := o5.frozen 1; have f52 := o5.frozen 2; have f53 := o5.frozen 3; have f54 := o5.frozen 4; have l5 := o5.lt))))
    all_goals go_wp2_with fail
    all_goals go_meet
    all_goals first
      | (have q5 := set5 o5 hbn (Nat.le_refl _) F'.s F'.z F'.a F'.p F'.c; with_reducible exact ⟨_, rfl, rfl, q5.1, q5.2, Nat.le_refl _⟩)
      | with_reducible exact ⟨_, rfl, rfl, own_new _ _ _, balloc hbn _, hz⟩
  case rest =>
    obtain ⟨bl, rfl, rfl, ow, hbc, hbl⟩ := hcut
    have Sc := S2'.out.below hbc
    have Kc := K2'.out.below hbc
    have Kh := Lib.hid Kc
    obtain ⟨kc, k0, k1, k2, k3, kw⟩ := Kc
    have P := sits_F Sc F'
    have Sh := Lib.hid Sc
    obtain ⟨f0, f1, f2, f3, f4⟩ := ow.five
    have g0 := Sc.m.frozen 8
    have g1 := Sc.m.frozen 9
    have g2 := Sc.m.frozen 10
    have g3 := Sc.m.frozen 11
    have g4 := Sc.m.frozen 12
    obtain ⟨_, _, _, _, _, _, _, _, m8, m9, m10, m11, m12, _, _, _, _, _, _, _⟩ := mach_cells Sc.m
    have nb : ¬ bl = g := by have := S2'.out.m.lt; omega
    have nb' : ¬ g = bl := fun h => nb h.symm
    clear Sc
    have G := setc_any g db cap vi vo vc _ w.heap.size (w.heap.size + 1) w1.heap.size d V op d s n m hm d0 d1 n0 n1 V0.1 V0.2 _ P.1 (Kh.out.turn P.2 (fun q => np (.inl q)) (fun q => nq (.inl q)) (fun q => nt (.inl q)))
    have Q := Lib.hid P.2
    clear P
    go_wp2_with fail
    refine G.mono ?_
    rintro e wn ⟨rfl, Sn, Tn⟩
    go_wp2
    go_end0
    exact ⟨rfl, Sn, ((Turn.of hb02).trans (Turn.of hbc)).trans ((turn_g Q.out).trans Tn)⟩

set_option maxRecDepth 100000 in
set_option maxHeartbeats 4000000 in
theorem does_9 (g db cap : Nat) (vi vo vc : Value) (st : St) (d s n m : Int) (hm : m = 8 ∨ m = 16) (d0 : 1 ≤ d) (d1 : d ≤ 20) (s0 : 1 ≤ s) (s1 : s ≤ 20) (n0 : 0 ≤ n) (n1 : n ≤ 65535) (w : World) (h : Sits w g db cap vi vo vc st)
    (hof : ∀ w, Calls Try.prog 53 #[.agg #[.int .i64 9, .int .i64 d, .int .i64 s, .int .u16 n]] w fun e w' => e = .returned (.int .u64 m) ∧ Below w.heap.size w w') :
    Calls Try.prog 40 #[at0 g, .agg #[.int .i64 9, .int .i64 d, .int .i64 s, .int .u16 n]] w (Goes g db cap vi vo vc w (.tuple #[]) ({ st with r := setF st.r (flagsF m (sumN 7 (getL st d n m) (getL st s n m) st.r.F.c) (sumA 7 (getL st d n m) (getL st s n m) st.r.F.c)) })) := by
  obtain ⟨F', hF⟩ : ∃ F', F' = flagsF m (sumN 7 (getL st d n m) (getL st s n m) st.r.F.c) (sumA 7 (getL st d n m) (getL st s n m) st.r.F.c) := ⟨_, rfl⟩
  obtain ⟨V, hV⟩ : ∃ V, V = flagsV m (sumN 7 (getL st d n m) (getL st s n m) st.r.F.c) := ⟨_, rfl⟩
  rw [← hF]
  have HF := Lib.hid hF
  have HV := Lib.hid hV
  clear hF hV
  have hmf : ∀ (fn : Fn) (first cap : Array Value) (w : World), (Instr.makeFunc fn first cap).run Try.prog w = .ok (.func fn first cap) w := fun _ _ _ _ => rfl
  obtain ⟨oc0, oi0⟩ := boxes w g 9 d s n
  go_enter Try.func40, Try.ntmps40
  go_wp2_with (first
    | (go_at_call 53; with_reducible refine (hof _).mono ?_; rintro e w1 ⟨rfl, hb1⟩; have oc1 := oc0.below hb1; have oi1 := oi0.below hb1; have kc1 := oc1.cell 0; have ki1 := own4c oi1; have hlt1 : w.heap.size + 1 < w1.heap.size := oi1.lt)
    | (go_at_call 58; with_reducible refine (jumps_no 9 d s n (by omega) _).mono ?_; rintro e w2 ⟨rfl, hb2⟩; have oc2 := (oc1.alloc (Obj.cells #[Value.int IntKind.u64 m] 106)).below hb2; have oi2 := (oi1.alloc (Obj.cells #[Value.int IntKind.u64 m] 106)).below hb2; have ow2 := (own_new w1 #[Value.int IntKind.u64 m] 106).below hb2; have kc2 := oc2.cell 0; have ki2 := own4c oi2; have kw2 := ow2.cell 0))
  have hb02 : Below w.heap.size w w2 := bthen hb2 (balloc (bthen hb1 (balloc (balloc (Below.refl _ _) _) _)) _)
  have S2 := h.below hb02
  have K2 : Caught w2 w.heap.size (w.heap.size + 1) w1.heap.size g 9 d s n m := ⟨kc2, ki2.1, ki2.2.1, ki2.2.2.1, ki2.2.2.2, kw2⟩
  have hg : g < w.heap.size := h.m.lt
  have hdb : db < w.heap.size := h.d.lt
  have np : ¬ two g db w.heap.size := by unfold two; omega
  have nq : ¬ two g db (w.heap.size + 1) := by unfold two; omega
  have nt : ¬ two g db w1.heap.size := by unfold two; omega
  have hwo : IntKind.i64.wrap 7 = 7 := by decide
  have va := getL_lo h.ok d n m n0 n1
  have vb := getL_lo h.ok s n m n0 n1
  have V0 := flagsV_lo m (sumN 7 (getL st d n m) (getL st s n m) st.r.F.c)
  have GD := fun W (hB : Below w2.heap.size w2 W) => getc_below g db cap vi vo vc st w.heap.size (w.heap.size + 1) w1.heap.size d 9 d s n m hm d0 (by omega) n0 n1 w2 W S2 K2 hB
  have GS := fun W (hB : Below w2.heap.size w2 W) => getc_below g db cap vi vo vc st w.heap.size (w.heap.size + 1) w1.heap.size s 9 d s n m hm s0 s1 n0 n1 w2 W S2 K2 hB
  have GP := fun W (hB : Below w2.heap.size w2 W) => sum_below g 7 (getL st d n m) (getL st s n m) m (by omega) (by omega) va.1 va.2 vb.1 vb.2 hm w2 W st.r.F.c (mach_cells S2.m).fc hB
  unfold Fl.val at GP
  rw [← HF.out, ← HV.out] at GP
  rw [← HV.out] at V0
  have S2' := Lib.hid S2
  have K2' := Lib.hid K2
  have kk := fun W (hT : Below w2.heap.size w2 W) => K2.below hT
  clear K2 S2 kc2 ki2 kw2 oc2 oi2 ow2 oc1 oi1 kc1 ki1 oc0 oi0 hb1 hb2 hof hmf
  go_cut [8, 9] from 60 to 75 (fun a b wx => ∃ bl, a = .int .u16 V ∧ b = .pointer (some ⟨bl, 0, none⟩) ∧ Own wx bl #[.bool F'.s, .bool F'.z, .bool F'.a, .bool F'.p, .bool F'.c] 44 ∧ Below w2.heap.size w2 wx ∧ w2.heap.size ≤ bl)
  case first =>
    go_region_held3 (fun W => (W.cell? ⟨w.heap.size, 0, none⟩ = some (at0 g) ∧ W.cell? ⟨w.heap.size + 1, 0, none⟩ = some (.int .i64 9) ∧ W.cell? ⟨w.heap.size + 1, 1, none⟩ = some (.int .i64 d) ∧ W.cell? ⟨w.heap.size + 1, 2, none⟩ = some (.int .i64 s) ∧ W.cell? ⟨w.heap.size + 1, 3, none⟩ = some (.int .u16 n) ∧ W.cell? ⟨w1.heap.size, 0, none⟩ = some (.int .u64 m)) ∧ Below w2.heap.size w2 W)
      ((refine (fun hT => ⟨⟨(kk _ hT).c, (kk _ hT).i0, (kk _ hT).i1, (kk _ hT).i2, (kk _ hT).i3, (kk _ hT).w⟩, hT⟩) ?_; (repeat (first | with_reducible exact Below.refl _ _ | with_reducible assumption | with_reducible apply balloc | with_reducible apply bdrew | with_reducible apply bdrewN | (with_reducible apply bset; focus (first | (simp; done) | (simp; omega)))))))
      (first
        | (go_simp; go_at_call 54; (with_reducible refine (GD _ ?_).mono ?_); (focus (repeat (first | with_reducible exact Below.refl _ _ | with_reducible assumption | with_reducible apply balloc | with_reducible apply bdrew | with_reducible apply bdrewN | (with_reducible apply bset; focus (first | (simp; done) | (simp; omega)))))); rintro e wn ⟨rfl, j, rfl⟩)
        | (go_simp; go_at_call 54; (with_reducible refine (GS _ ?_).mono ?_); (focus (repeat (first | with_reducible exact Below.refl _ _ | with_reducible assumption | with_reducible apply balloc | with_reducible apply bdrew | with_reducible apply bdrewN | (with_reducible apply bset; focus (first | (simp; done) | (simp; omega)))))); rintro e wn ⟨rfl, j, rfl⟩)
        | (go_simp; go_at_call 62; (with_reducible refine (GP _ ?_).mono ?_); (focus (repeat (first | with_reducible exact Below.refl _ _ | with_reducible assumption | with_reducible apply balloc | with_reducible apply bdrew | with_reducible apply bdrewN | (with_reducible apply bset; focus (first | (simp; done) | (simp; omega)))))); rintro e wn ⟨rfl, hbn, hbW⟩; have hz := hbn.size; (try (have o5 : Own wn w2.heap.size #[.bool false, .bool false, .bool false, .bool false, .bool false] 44 := (by first | (have q5 := (own_new _ #[Value.bool false, Value.bool false, Value.bool false, Value.bool false, Value.bool false] 44).below hbW; exact q5) | (have q5 := (Own.drewN (own_new _ #[Value.bool false, Value.bool false, Value.bool false, Value.bool false, Value.bool false] 44) _).below hbW; exact q5)); have k5 := o5.five; have f50 := o5.frozen 0; have f51 := o5.frozen 1; have f52 := o5.frozen 2; have f53 := o5.frozen 3; have f54 := o5.frozen 4; have l5 := o5.lt))))
    all_goals go_wp2_with fail
    all_goals go_meet
    all_goals first
      | (have q5 := set5 o5 hbn (Nat.le_refl _) F'.s F'.z F'.a F'.p F'.c; with_reducible exact ⟨_, rfl, rfl, q5.1, q5.2, Nat.le_refl _⟩)
      | with_reducible exact ⟨_, rfl, rfl, own_new _ _ _, balloc hbn _, hz⟩
  case rest =>
    obtain ⟨bl, rfl, rfl, ow, hbc, hbl⟩ := hcut
    have Sc := S2'.out.below hbc
    have Kc := K2'.out.below hbc
    have Kh := Lib.hid Kc
    obtain ⟨kc, k0, k1, k2, k3, kw⟩ := Kc
    have P := sits_F Sc F'
    have Sh := Lib.hid Sc
    obtain ⟨f0, f1, f2, f3, f4⟩ := ow.five
    have g0 := Sc.m.frozen 8
    have g1 := Sc.m.frozen 9
    have g2 := Sc.m.frozen 10
    have g3 := Sc.m.frozen 11
    have g4 := Sc.m.frozen 12
    obtain ⟨_, _, _, _, _, _, _, _, m8, m9, m10, m11, m12, _, _, _, _, _, _, _⟩ := mach_cells Sc.m
    have nb : ¬ bl = g := by have := S2'.out.m.lt; omega
    have nb' : ¬ g = bl := fun h => nb h.symm
    clear Sc
    go_wp2
    go_end0
    exact ⟨rfl, P.1, ((Turn.of hb02).trans (Turn.of hbc)).trans (turn_g P.2)⟩

end Go.Proofs.Ytbhkndblolegaaa
