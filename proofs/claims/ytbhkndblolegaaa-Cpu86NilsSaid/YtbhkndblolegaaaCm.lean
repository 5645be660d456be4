/- The walks of cpu86's does: INC and DEC. -/
import Derived.Test.YtbhkndblolegaaaCl
import Derived.Deep.RegionHeld3
import Derived.Deep.CutRange
namespace Go.Proofs.Ytbhkndblolegaaa
open Go.RowKit
set_option linter.unusedVariables false
set_option linter.unusedSimpArgs false

set_option maxRecDepth 100000 in
set_option maxHeartbeats 4000000 in
theorem does_10 (g db cap : Nat) (vi vo vc : Value) (st : St) (d s n m : Int) (hm : m = 8 ∨ m = 16) (d0 : 1 ≤ d) (d1 : d ≤ 19) (n0 : 0 ≤ n) (n1 : n ≤ 65535) (w : World) (h : Sits w g db cap vi vo vc st)
    (hof : ∀ w, Calls Try.prog 53 #[.agg #[.int .i64 10, .int .i64 d, .int .i64 s, .int .u16 n]] w fun e w' => e = .returned (.int .u64 m) ∧ Below w.heap.size w w') :
    Calls Try.prog 40 #[at0 g, .agg #[.int .i64 10, .int .i64 d, .int .i64 s, .int .u16 n]] w (Goes g db cap vi vo vc w (.tuple #[]) (setL { st with r := setF st.r { flagsF m (sumN 0 (getL st d n m) 1 st.r.F.c) (sumA 0 (getL st d n m) 1 st.r.F.c) with c := st.r.F.c } } d n (flagsV m (sumN 0 (getL st d n m) 1 st.r.F.c)) m)) := by
  obtain ⟨F', hF⟩ : ∃ F', F' = flagsF m (sumN 0 (getL st d n m) 1 st.r.F.c) (sumA 0 (getL st d n m) 1 st.r.F.c) := ⟨_, rfl⟩
  obtain ⟨V, hV⟩ : ∃ V, V = flagsV m (sumN 0 (getL st d n m) 1 st.r.F.c) := ⟨_, rfl⟩
  rw [← hF, ← hV]
  have HF := Lib.hid hF
  have HV := Lib.hid hV
  clear hF hV
  have hmf : ∀ (fn : Fn) (first cap : Array Value) (w : World), (Instr.makeFunc fn first cap).run Try.prog w = .ok (.func fn first cap) w := fun _ _ _ _ => rfl
  obtain ⟨oc0, oi0⟩ := boxes w g 10 d s n
  go_enter Try.func40, Try.ntmps40
  go_wp2_with (first
    | (go_at_call 53; with_reducible refine (hof _).mono ?_; rintro e w1 ⟨rfl, hb1⟩; have oc1 := oc0.below hb1; have oi1 := oi0.below hb1; have kc1 := oc1.cell 0; have ki1 := own4c oi1; have hlt1 : w.heap.size + 1 < w1.heap.size := oi1.lt)
    | (go_at_call 58; with_reducible refine (jumps_no 10 d s n (by omega) _).mono ?_; rintro e w2 ⟨rfl, hb2⟩; have oc2 := (oc1.alloc (Obj.cells #[Value.int IntKind.u64 m] 106)).below hb2; have oi2 := (oi1.alloc (Obj.cells #[Value.int IntKind.u64 m] 106)).below hb2; have ow2 := (own_new w1 #[Value.int IntKind.u64 m] 106).below hb2; have kc2 := oc2.cell 0; have ki2 := own4c oi2; have kw2 := ow2.cell 0))
  have hb02 : Below w.heap.size w w2 := bthen hb2 (balloc (bthen hb1 (balloc (balloc (Below.refl _ _) _) _)) _)
  have S2 := h.below hb02
  have K2 : Caught w2 w.heap.size (w.heap.size + 1) w1.heap.size g 10 d s n m := ⟨kc2, ki2.1, ki2.2.1, ki2.2.2.1, ki2.2.2.2, kw2⟩
  have hg : g < w.heap.size := h.m.lt
  have hdb : db < w.heap.size := h.d.lt
  have np : ¬ two g db w.heap.size := by unfold two; omega
  have nq : ¬ two g db (w.heap.size + 1) := by unfold two; omega
  have nt : ¬ two g db w1.heap.size := by unfold two; omega
  have va := getL_lo h.ok d n m n0 n1
  have V0 := flagsV_lo m (sumN 0 (getL st d n m) 1 st.r.F.c)
  have GD := fun W (hB : Below w2.heap.size w2 W) => getc_below g db cap vi vo vc st w.heap.size (w.heap.size + 1) w1.heap.size d 10 d s n m hm d0 (by omega) n0 n1 w2 W S2 K2 hB
  have GP := fun W (hB : Below w2.heap.size w2 W) => sum_below g 0 (getL st d n m) 1 m (by omega) (by omega) va.1 va.2 (by omega) (by omega) hm w2 W st.r.F.c (mach_cells S2.m).fc hB
  unfold Fl.val at GP
  rw [← HF.out, ← HV.out] at GP
  rw [← HV.out] at V0
  have hwk : IntKind.i64.wrap 0 = 0 := by decide
  have hw1 : IntKind.i64.wrap 1 = 1 := by decide
  have hw5 : IntKind.i64.wrap (1 * 5) = 5 := by decide
  have hw0 : IntKind.i64.wrap (0 * 5) = 0 := by decide
  have S2' := Lib.hid S2
  have K2' := Lib.hid K2
  have kk := fun W (hT : Below w2.heap.size w2 W) => K2.below hT
  clear K2 S2 kc2 ki2 kw2 oc2 oi2 ow2 oc1 oi1 kc1 ki1 oc0 oi0 hb1 hb2 hof hmf
  go_cut [10, 11] from 91 to 103 (fun a b wx => ∃ bl, a = .int .u16 V ∧ b = .pointer (some ⟨bl, 0, none⟩) ∧ Own wx bl #[.bool F'.s, .bool F'.z, .bool F'.a, .bool F'.p, .bool F'.c] 44 ∧ Below w2.heap.size w2 wx ∧ w2.heap.size ≤ bl)
  case first =>
    go_region_held3 (fun W => (W.cell? ⟨w.heap.size, 0, none⟩ = some (at0 g) ∧ W.cell? ⟨w.heap.size + 1, 0, none⟩ = some (.int .i64 10) ∧ W.cell? ⟨w.heap.size + 1, 1, none⟩ = some (.int .i64 d) ∧ W.cell? ⟨w.heap.size + 1, 2, none⟩ = some (.int .i64 s) ∧ W.cell? ⟨w.heap.size + 1, 3, none⟩ = some (.int .u16 n) ∧ W.cell? ⟨w1.heap.size, 0, none⟩ = some (.int .u64 m)) ∧ Below w2.heap.size w2 W)
      ((refine (fun hT => ⟨⟨(kk _ hT).c, (kk _ hT).i0, (kk _ hT).i1, (kk _ hT).i2, (kk _ hT).i3, (kk _ hT).w⟩, hT⟩) ?_; (repeat (first | with_reducible exact Below.refl _ _ | with_reducible assumption | with_reducible apply balloc | with_reducible apply bdrew | with_reducible apply bdrewN | (with_reducible apply bset; focus (first | (simp; done) | (simp; omega)))))))
      (first
        | (go_simp; go_at_call 54; (with_reducible refine (GD _ ?_).mono ?_); (focus (repeat (first | with_reducible exact Below.refl _ _ | with_reducible assumption | with_reducible apply balloc | with_reducible apply bdrew | with_reducible apply bdrewN | (with_reducible apply bset; focus (first | (simp; done) | (simp; omega)))))); rintro e wn ⟨rfl, j, rfl⟩)
        | (go_simp; go_at_call 62; (with_reducible refine (GP _ ?_).mono ?_); (focus (repeat (first | with_reducible exact Below.refl _ _ | with_reducible assumption | with_reducible apply balloc | with_reducible apply bdrew | with_reducible apply bdrewN | (with_reducible apply bset; focus (first | (simp; done) | (simp; omega)))))); rintro e wn ⟨rfl, hbn, hbW⟩; have hz := hbn.size; (try (have o5 : Own wn w2.heap.size #[.bool false, .bool false, .bool false, .bool false, .bool false] 44 := (by first | (have q5 := (own_new _ #[Value.bool false, Value.bool false, Value.bool false, Value.bool false, Value.bool false] 44).below hbW; exact q5) | (have q5 := (Own.drewN (own_new _ #[Value.bool false, Value.bool false, Value.bool false, Value.bool false, Value.bool false] 44) _).below hbW; exact q5)); have k5 := o5.five; have f50 := o5.frozen 0; have f51 := o5.frozen 1; have f52 := o5.frozen 2; have f53 := o5.frozen 3; have f54 := o5.frozen 4; have l5 := o5.lt))))
    all_goals go_wp2_with fail
    all_goals go_meet
    all_goals first
      | (have q5 := set5 o5 hbn (Nat.le_refl _) F'.s F'.z F'.a F'.p F'.c; with_reducible exact ⟨_, rfl, rfl, q5.1, q5.2, Nat.le_refl _⟩)
      | with_reducible exact ⟨_, rfl, rfl, own_new _ _ _, balloc hbn _, hz⟩
  case rest =>
    obtain ⟨bl, rfl, rfl, ow, hbc, hbl⟩ := hcut
    have Sc0 := S2'.out.below hbc
    have nb : ¬ bl = g := by have := S2'.out.m.lt; omega
    have nb' : ¬ g = bl := fun h => nb h.symm
    have hb3 : Below w2.heap.size w2 (wc.setCell ⟨bl, 4, none⟩ (.bool st.r.F.c)) := bset hbl hbc
    have Sc := S2'.out.below hb3
    have Kc := K2'.out.below hb3
    have Kh := Lib.hid Kc
    obtain ⟨kc, k0, k1, k2, k3, kw⟩ := K2'.out.below hbc
    have P := sits_F Sc { F' with c := st.r.F.c }
    have Sh := Lib.hid Sc
    obtain ⟨f0, f1, f2, f3, f4⟩ := ow.five
    have e4 := ow.frozen 4
    have g0 := Sc0.m.frozen 8
    have g1 := Sc0.m.frozen 9
    have g2 := Sc0.m.frozen 10
    have g3 := Sc0.m.frozen 11
    have g4 := Sc0.m.frozen 12
    obtain ⟨_, _, _, _, _, _, _, _, m8, m9, m10, m11, m12, _, _, _, _, _, _, _⟩ := mach_cells Sc0.m
    have G := setc_any g db cap vi vo vc _ w.heap.size (w.heap.size + 1) w1.heap.size d V 10 d s n m hm d0 d1 n0 n1 V0.1 V0.2 _ P.1 (Kh.out.turn P.2 (fun q => np (.inl q)) (fun q => nq (.inl q)) (fun q => nt (.inl q)))
    have Q := Lib.hid P.2
    have hb3' := Lib.hid hb3
    clear P Sc Kc hb3 Sc0
    go_wp2_with fail
    refine G.mono ?_
    rintro e wn ⟨rfl, Sn, Tn⟩
    go_wp2
    go_end0
    exact ⟨rfl, Sn, ((Turn.of hb02).trans (Turn.of hb3'.out)).trans ((turn_g Q.out).trans Tn)⟩

set_option maxRecDepth 100000 in
set_option maxHeartbeats 4000000 in
theorem does_11 (g db cap : Nat) (vi vo vc : Value) (st : St) (d s n m : Int) (hm : m = 8 ∨ m = 16) (d0 : 1 ≤ d) (d1 : d ≤ 19) (n0 : 0 ≤ n) (n1 : n ≤ 65535) (w : World) (h : Sits w g db cap vi vo vc st)
    (hof : ∀ w, Calls Try.prog 53 #[.agg #[.int .i64 11, .int .i64 d, .int .i64 s, .int .u16 n]] w fun e w' => e = .returned (.int .u64 m) ∧ Below w.heap.size w w') :
    Calls Try.prog 40 #[at0 g, .agg #[.int .i64 11, .int .i64 d, .int .i64 s, .int .u16 n]] w (Goes g db cap vi vo vc w (.tuple #[]) (setL { st with r := setF st.r { flagsF m (sumN 5 (getL st d n m) 1 st.r.F.c) (sumA 5 (getL st d n m) 1 st.r.F.c) with c := st.r.F.c } } d n (flagsV m (sumN 5 (getL st d n m) 1 st.r.F.c)) m)) := by
  obtain ⟨F', hF⟩ : ∃ F', F' = flagsF m (sumN 5 (getL st d n m) 1 st.r.F.c) (sumA 5 (getL st d n m) 1 st.r.F.c) := ⟨_, rfl⟩
  obtain ⟨V, hV⟩ : ∃ V, V = flagsV m (sumN 5 (getL st d n m) 1 st.r.F.c) := ⟨_, rfl⟩
  rw [← hF, ← hV]
  have HF := Lib.hid hF
  have HV := Lib.hid hV
  clear hF hV
  have hmf : ∀ (fn : Fn) (first cap : Array Value) (w : World), (Instr.makeFunc fn first cap).run Try.prog w = .ok (.func fn first cap) w := fun _ _ _ _ => rfl
  obtain ⟨oc0, oi0⟩ := boxes w g 11 d s n
  go_enter Try.func40, Try.ntmps40
  go_wp2_with (first
    | (go_at_call 53; with_reducible refine (hof _).mono ?_; rintro e w1 ⟨rfl, hb1⟩; have oc1 := oc0.below hb1; have oi1 := oi0.below hb1; have kc1 := oc1.cell 0; have ki1 := own4c oi1; have hlt1 : w.heap.size + 1 < w1.heap.size := oi1.lt)
    | (go_at_call 58; with_reducible refine (jumps_no 11 d s n (by omega) _).mono ?_; rintro e w2 ⟨rfl, hb2⟩; have oc2 := (oc1.alloc (Obj.cells #[Value.int IntKind.u64 m] 106)).below hb2; have oi2 := (oi1.alloc (Obj.cells #[Value.int IntKind.u64 m] 106)).below hb2; have ow2 := (own_new w1 #[Value.int IntKind.u64 m] 106).below hb2; have kc2 := oc2.cell 0; have ki2 := own4c oi2; have kw2 := ow2.cell 0))
  have hb02 : Below w.heap.size w w2 := bthen hb2 (balloc (bthen hb1 (balloc (balloc (Below.refl _ _) _) _)) _)
  have S2 := h.below hb02
  have K2 : Caught w2 w.heap.size (w.heap.size + 1) w1.heap.size g 11 d s n m := ⟨kc2, ki2.1, ki2.2.1, ki2.2.2.1, ki2.2.2.2, kw2⟩
  have hg : g < w.heap.size := h.m.lt
  have hdb : db < w.heap.size := h.d.lt
  have np : ¬ two g db w.heap.size := by unfold two; omega
  have nq : ¬ two g db (w.heap.size + 1) := by unfold two; omega
  have nt : ¬ two g db w1.heap.size := by unfold two; omega
  have va := getL_lo h.ok d n m n0 n1
  have V0 := flagsV_lo m (sumN 5 (getL st d n m) 1 st.r.F.c)
  have GD := fun W (hB : Below w2.heap.size w2 W) => getc_below g db cap vi vo vc st w.heap.size (w.heap.size + 1) w1.heap.size d 11 d s n m hm d0 (by omega) n0 n1 w2 W S2 K2 hB
  have GP := fun W (hB : Below w2.heap.size w2 W) => sum_below g 5 (getL st d n m) 1 m (by omega) (by omega) va.1 va.2 (by omega) (by omega) hm w2 W st.r.F.c (mach_cells S2.m).fc hB
  unfold Fl.val at GP
  rw [← HF.out, ← HV.out] at GP
  rw [← HV.out] at V0
  have hwk : IntKind.i64.wrap 5 = 5 := by decide
  have hw1 : IntKind.i64.wrap 1 = 1 := by decide
  have hw5 : IntKind.i64.wrap (1 * 5) = 5 := by decide
  have hw0 : IntKind.i64.wrap (0 * 5) = 0 := by decide
  have S2' := Lib.hid S2
  have K2' := Lib.hid K2
  have kk := fun W (hT : Below w2.heap.size w2 W) => K2.below hT
  clear K2 S2 kc2 ki2 kw2 oc2 oi2 ow2 oc1 oi1 kc1 ki1 oc0 oi0 hb1 hb2 hof hmf
  go_cut [10, 11] from 91 to 103 (fun a b wx => ∃ bl, a = .int .u16 V ∧ b = .pointer (some ⟨bl, 0, none⟩) ∧ Own wx bl #[.bool F'.s, .bool F'.z, .bool F'.a, .bool F'.p, .bool F'.c] 44 ∧ Below w2.heap.size w2 wx ∧ w2.heap.size ≤ bl)
  case first =>
    go_region_held3 (fun W => (W.cell? ⟨w.heap.size, 0, none⟩ = some (at0 g) ∧ W.cell? ⟨w.heap.size + 1, 0, none⟩ = some (.int .i64 11) ∧ W.cell? ⟨w.heap.size + 1, 1, none⟩ = some (.int .i64 d) ∧ W.cell? ⟨w.heap.size + 1, 2, none⟩ = some (.int .i64 s) ∧ W.cell? ⟨w.heap.size + 1, 3, none⟩ = some (.int .u16 n) ∧ W.cell? ⟨w1.heap.size, 0, none⟩ = some (.int .u64 m)) ∧ Below w2.heap.size w2 W)
      ((refine (fun hT => ⟨⟨(kk _ hT).c, (kk _ hT).i0, (kk _ hT).i1, (kk _ hT).i2, (kk _ hT).i3, (kk _ hT).w⟩, hT⟩) ?_; (repeat (first | with_reducible exact Below.refl _ _ | with_reducible assumption | with_reducible apply balloc | with_reducible apply bdrew | with_reducible apply bdrewN | (with_reducible apply bset; focus (first | (simp; done) | (simp; omega)))))))
      (first
        | (go_simp; go_at_call 54; (with_reducible refine (GD _ ?_).mono ?_); (focus (repeat (first | with_reducible exact Below.refl _ _ | with_reducible assumption | with_reducible apply balloc | with_reducible apply bdrew | with_reducible apply bdrewN | (with_reducible apply bset; focus (first | (simp; done) | (simp; omega)))))); rintro e wn ⟨rfl, j, rfl⟩)
        | (go_simp; go_at_call 62; (with_reducible refine (GP _ ?_).mono ?_); (focus (repeat (first | with_reducible exact Below.refl _ _ | with_reducible assumption | with_reducible apply balloc | with_reducible apply bdrew | with_reducible apply bdrewN | (with_reducible apply bset; focus (first | (simp; done) | (simp; omega)))))); rintro e wn ⟨rfl, hbn, hbW⟩; have hz := hbn.size; (try (have o5 : Own wn w2.heap.size #[.bool false, .bool false, .bool false, .bool false, .bool false] 44 := (by first | (have q5 := (own_new _ #[Value.bool false, Value.bool false, Value.bool false, Value.bool false, Value.bool false] 44).below hbW; exact q5) | (have q5 := (Own.drewN (own_new _ #[Value.bool false, Value.bool false, Value.bool false, Value.bool false, Value.bool false] 44) _).below hbW; exact q5)); have k5 := o5.five; have f50 := o5.frozen 0; have f51 := o5.frozen 1; have f52 := o5.frozen 2; have f53 := o5.frozen 3; have f54 := o5.frozen 4; have l5 := o5.lt))))
    all_goals go_wp2_with fail
    all_goals go_meet
    all_goals first
      | (have q5 := set5 o5 hbn (Nat.le_refl _) F'.s F'.z F'.a F'.p F'.c; with_reducible exact ⟨_, rfl, rfl, q5.1, q5.2, Nat.le_refl _⟩)
      | with_reducible exact ⟨_, rfl, rfl, own_new _ _ _, balloc hbn _, hz⟩
  case rest =>
    obtain ⟨bl, rfl, rfl, ow, hbc, hbl⟩ := hcut
    have Sc0 := S2'.out.below hbc
    have nb : ¬ bl = g := by have := S2'.out.m.lt; omega
    have nb' : ¬ g = bl := fun h => nb h.symm
    have hb3 : Below w2.heap.size w2 (wc.setCell ⟨bl, 4, none⟩ (.bool st.r.F.c)) := bset hbl hbc
    have Sc := S2'.out.below hb3
    have Kc := K2'.out.below hb3
    have Kh := Lib.hid Kc
    obtain ⟨kc, k0, k1, k2, k3, kw⟩ := K2'.out.below hbc
    have P := sits_F Sc { F' with c := st.r.F.c }
    have Sh := Lib.hid Sc
    obtain ⟨f0, f1, f2, f3, f4⟩ := ow.five
    have e4 := ow.frozen 4
    have g0 := Sc0.m.frozen 8
    have g1 := Sc0.m.frozen 9
    have g2 := Sc0.m.frozen 10
    have g3 := Sc0.m.frozen 11
    have g4 := Sc0.m.frozen 12
    obtain ⟨_, _, _, _, _, _, _, _, m8, m9, m10, m11, m12, _, _, _, _, _, _, _⟩ := mach_cells Sc0.m
    have G := setc_any g db cap vi vo vc _ w.heap.size (w.heap.size + 1) w1.heap.size d V 11 d s n m hm d0 d1 n0 n1 V0.1 V0.2 _ P.1 (Kh.out.turn P.2 (fun q => np (.inl q)) (fun q => nq (.inl q)) (fun q => nt (.inl q)))
    have Q := Lib.hid P.2
    have hb3' := Lib.hid hb3
    clear P Sc Kc hb3 Sc0
    go_wp2_with fail
    refine G.mono ?_
    rintro e wn ⟨rfl, Sn, Tn⟩
    go_wp2
    go_end0
    exact ⟨rfl, Sn, ((Turn.of hb02).trans (Turn.of hb3'.out)).trans ((turn_g Q.out).trans Tn)⟩

end Go.Proofs.Ytbhkndblolegaaa
