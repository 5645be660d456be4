/- The walks of isa86's Jumps and of the closures of cpu86's does. The walk of cpu86's does: MOV. -/
import Derived.Test.YtbhkndblolegaaaCi
import Derived.Test.YtbhkndblolegaaaCd
import Derived.Test.YtbhkndblolegaaaCe
import Derived.Deep.RegionHeld3
namespace Go.Proofs.Ytbhkndblolegaaa
open Go.RowKit
set_option linter.unusedVariables false
set_option linter.unusedSimpArgs false

theorem jumps_no (op d s n : Int) (h : (1 ≤ op ∧ op ≤ 31) ∨ op = 35) (w : World) :
    Calls Try.prog 58 #[.agg #[.int .i64 op, .int .i64 d, .int .i64 s, .int .u16 n]] w fun e w' => e = .returned (.bool false) ∧ Below w.heap.size w w' := by
  have o := own4c (own_new w #[.int .i64 op, .int .i64 d, .int .i64 s, .int .u16 n] 52)
  have a1 : ¬ op = 32 := by omega
  have a2 : ¬ op = 33 := by omega
  have a3 : ¬ op = 34 := by omega
  have a4 : ¬ op = 42 := by omega
  have a5 : ¬ op = 43 := by omega
  have a6 : ¬ op = 44 := by omega
  have a7 : ¬ op = 45 := by omega
  have a8 : ¬ op = 48 := by omega
  have a9 : ¬ op = 49 := by omega
  have b1 : ¬ op = 50 := by omega
  have b2 : ¬ op = 51 := by omega
  clear h
  go_enter Try.func58, Try.ntmps58
  go_wp2
  go_ret
  exact ⟨rfl, balloc (Below.refl _ _) _⟩
theorem jumps_yes (op d s n : Int) (h : op = 32 ∨ op = 33 ∨ op = 34 ∨ condP op) (w : World) :
    Calls Try.prog 58 #[.agg #[.int .i64 op, .int .i64 d, .int .i64 s, .int .u16 n]] w fun e w' => e = .returned (.bool true) ∧ Below w.heap.size w w' := by
  have o := own4c (own_new w #[.int .i64 op, .int .i64 d, .int .i64 s, .int .u16 n] 52)
  unfold condP at h
  rcases h with rfl | rfl | rfl | rfl | rfl | rfl | rfl | rfl | rfl | rfl | rfl <;>
  · go_enter Try.func58, Try.ntmps58
    go_wp2
    go_ret
    exact ⟨rfl, balloc (Below.refl _ _) _⟩

/-- What the closures have caught: the machine, the instruction, the width. -/
structure Caught (w : World) (p q t g : Nat) (op d s n m : Int) : Prop where
  c : w.cell? ⟨p, 0, none⟩ = some (at0 g)
  i0 : w.cell? ⟨q, 0, none⟩ = some (.int .i64 op)
  i1 : w.cell? ⟨q, 1, none⟩ = some (.int .i64 d)
  i2 : w.cell? ⟨q, 2, none⟩ = some (.int .i64 s)
  i3 : w.cell? ⟨q, 3, none⟩ = some (.int .u16 n)
  w : w.cell? ⟨t, 0, none⟩ = some (.int .u64 m)
theorem Caught.below {w w1 : World} {p q t g : Nat} {op d s n m : Int} (h : Caught w p q t g op d s n m) (k : Below w.heap.size w w1) : Caught w1 p q t g op d s n m :=
  ⟨cell_below h.c k, cell_below h.i0 k, cell_below h.i1 k, cell_below h.i2 k, cell_below h.i3 k, cell_below h.w k⟩
theorem Caught.turn {S : Nat → Prop} {w w1 : World} {p q t g : Nat} {op d s n m : Int} (h : Caught w p q t g op d s n m) (k : Turn S w w1) (hp : ¬ S p) (hq : ¬ S q) (ht : ¬ S t) : Caught w1 p q t g op d s n m :=
  ⟨cell_turn h.c k hp, cell_turn h.i0 k hq, cell_turn h.i1 k hq, cell_turn h.i2 k hq, cell_turn h.i3 k hq, cell_turn h.w k ht⟩

theorem getc_any (g db cap : Nat) (vi vo vc : Value) (st : St) (p q t : Nat) (code op d s n m : Int) (hm : m = 8 ∨ m = 16) (c0 : 1 ≤ code) (c1 : code ≤ 20) (n0 : 0 ≤ n) (n1 : n ≤ 65535) (w : World) (h : Sits w g db cap vi vo vc st) (k : Caught w p q t g op d s n m) :
    Calls Try.prog 54 #[.int .i64 code, at0 p, at0 q, at0 t] w fun e w' => e = .returned (.int .u16 (getL st code n m)) ∧ ∃ k, w' = w.drewN k := by
  have G := get_any g db cap vi vo vc st code n m hm c0 c1 n0 n1 w h
  generalize getL st code n m = V at *
  obtain ⟨kc, _, _, _, kn, kw⟩ := k
  clear h
  go_enter Try.func54, Try.ntmps54
  go_wp2_with (go_at_call 55; with_reducible refine G.mono ?_; rintro e w1 ⟨rfl, j, rfl⟩)
  go_ret
  exact ⟨rfl, j, rfl⟩
theorem setc_any (g db cap : Nat) (vi vo vc : Value) (st : St) (p q t : Nat) (code v op d s n m : Int) (hm : m = 8 ∨ m = 16) (c0 : 1 ≤ code) (c1 : code ≤ 19) (n0 : 0 ≤ n) (n1 : n ≤ 65535) (v0 : 0 ≤ v) (v1 : v ≤ 65535) (w : World) (h : Sits w g db cap vi vo vc st) (k : Caught w p q t g op d s n m) :
    Calls Try.prog 56 #[.int .i64 code, .int .u16 v, at0 p, at0 q, at0 t] w (Goes g db cap vi vo vc w (.tuple #[]) (setL st code n v m)) := by
  have G := set_any g db cap vi vo vc st code n v m hm c0 c1 n0 n1 v0 v1 w h
  obtain ⟨kc, _, _, _, kn, kw⟩ := k
  clear h
  go_enter Try.func56, Try.ntmps56
  go_wp2_with fail
  refine G.mono ?_
  rintro e w1 ⟨rfl, S, T⟩
  go_wp2
  go_end0
  exact ⟨rfl, S, T⟩

end Go.Proofs.Ytbhkndblolegaaa

namespace Go.Proofs.Ytbhkndblolegaaa
open Go.RowKit
set_option linter.unusedVariables false
set_option linter.unusedSimpArgs false

theorem turn_from {S : Nat → Prop} {w w1 : World} {j : Nat} (T : Turn S (w.drewN j) w1) : Turn S w w1 := (Turn.drewN (Turn.refl _ _) j).trans T
theorem boxes (w : World) (g : Nat) (op d s n : Int) :
    Own ((w.alloc (Obj.cells #[at0 g] 32)).alloc (Obj.cells #[.int .i64 op, .int .i64 d, .int .i64 s, .int .u16 n] 52)) w.heap.size #[at0 g] 32 ∧
    Own ((w.alloc (Obj.cells #[at0 g] 32)).alloc (Obj.cells #[.int .i64 op, .int .i64 d, .int .i64 s, .int .u16 n] 52)) (w.heap.size + 1) #[.int .i64 op, .int .i64 d, .int .i64 s, .int .u16 n] 52 := by
  have h2 := own_new (w.alloc (.cells #[at0 g] 32)) #[.int .i64 op, .int .i64 d, .int .i64 s, .int .u16 n] 52
  rw [World.size_alloc] at h2
  exact ⟨(own_new w _ _).alloc _, h2⟩

set_option maxRecDepth 100000 in
set_option maxHeartbeats 1000000 in
theorem does_1 (g db cap : Nat) (vi vo vc : Value) (st : St) (d s n m : Int) (hm : m = 8 ∨ m = 16) (d0 : 1 ≤ d) (d1 : d ≤ 19) (s0 : 1 ≤ s) (s1 : s ≤ 20) (n0 : 0 ≤ n) (n1 : n ≤ 65535) (w : World) (h : Sits w g db cap vi vo vc st)
    (hof : ∀ w, Calls Try.prog 53 #[.agg #[.int .i64 1, .int .i64 d, .int .i64 s, .int .u16 n]] w fun e w' => e = .returned (.int .u64 m) ∧ Below w.heap.size w w') :
    Calls Try.prog 40 #[at0 g, .agg #[.int .i64 1, .int .i64 d, .int .i64 s, .int .u16 n]] w (Goes g db cap vi vo vc w (.tuple #[]) (setL st d n (getL st s n m) m)) := by
  have hmf : ∀ (fn : Fn) (first cap : Array Value) (w : World), (Instr.makeFunc fn first cap).run Try.prog w = .ok (.func fn first cap) w := fun _ _ _ _ => rfl
  obtain ⟨oc0, oi0⟩ := boxes w g 1 d s n
  go_enter Try.func40, Try.ntmps40
  go_wp2_with (first
    | (go_at_call 53; with_reducible refine (hof _).mono ?_; rintro e w1 ⟨rfl, hb1⟩; have oc1 := oc0.below hb1; have oi1 := oi0.below hb1; have kc1 := oc1.cell 0; have ki1 := own4c oi1; have hlt1 : w.heap.size + 1 < w1.heap.size := oi1.lt)
    | (go_at_call 58; with_reducible refine (jumps_no 1 d s n (by omega) _).mono ?_; rintro e w2 ⟨rfl, hb2⟩; have oc2 := (oc1.alloc (Obj.cells #[Value.int IntKind.u64 m] 106)).below hb2; have oi2 := (oi1.alloc (Obj.cells #[Value.int IntKind.u64 m] 106)).below hb2; have ow2 := (own_new w1 #[Value.int IntKind.u64 m] 106).below hb2; have kc2 := oc2.cell 0; have ki2 := own4c oi2; have kw2 := ow2.cell 0))
  have hb02 : Below w.heap.size w w2 := bthen hb2 (balloc (bthen hb1 (balloc (balloc (Below.refl _ _) _) _)) _)
  have S2 := h.below hb02
  have K2 : Caught w2 w.heap.size (w.heap.size + 1) w1.heap.size g 1 d s n m := ⟨kc2, ki2.1, ki2.2.1, ki2.2.2.1, ki2.2.2.2, kw2⟩
  have hg : g < w.heap.size := h.m.lt
  have hdb : db < w.heap.size := h.d.lt
  have np : ¬ two g db w.heap.size := by unfold two; omega
  have nq : ¬ two g db (w.heap.size + 1) := by unfold two; omega
  have nt : ¬ two g db w1.heap.size := by unfold two; omega
  have v := getL_lo h.ok s n m n0 n1
  have G1 := getc_any g db cap vi vo vc st w.heap.size (w.heap.size + 1) w1.heap.size s 1 d s n m hm s0 s1 n0 n1 w2.drew (S2.drewN 1) (K2.below (bdrewN (Below.refl _ _) 1))
  have G2 := fun j => setc_any g db cap vi vo vc st w.heap.size (w.heap.size + 1) w1.heap.size d (getL st s n m) 1 d s n m hm d0 d1 n0 n1 v.1 v.2 (w2.drewN j) (S2.drewN j) (K2.below (bdrewN (Below.refl _ _) j))
  have kk := fun W (hT : Turn (two g db) w2 W) => K2.turn hT np nq nt
  clear K2 S2 kc2 ki2 kw2 oc2 oi2 ow2 oc1 oi1 kc1 ki1 oc0 oi0 hb1 hb2 hof hmf np nq nt
  go_region_held3 (fun W => (W.cell? ⟨w.heap.size, 0, none⟩ = some (at0 g) ∧ W.cell? ⟨w.heap.size + 1, 0, none⟩ = some (.int .i64 1) ∧ W.cell? ⟨w.heap.size + 1, 1, none⟩ = some (.int .i64 d) ∧ W.cell? ⟨w.heap.size + 1, 2, none⟩ = some (.int .i64 s) ∧ W.cell? ⟨w.heap.size + 1, 3, none⟩ = some (.int .u16 n) ∧ W.cell? ⟨w1.heap.size, 0, none⟩ = some (.int .u64 m)) ∧ Turn (two g db) w2 W)
    ((refine (fun hT => ⟨⟨(kk _ hT).c, (kk _ hT).i0, (kk _ hT).i1, (kk _ hT).i2, (kk _ hT).i3, (kk _ hT).w⟩, hT⟩) ?_; (first | with_reducible exact Turn.refl _ _ | with_reducible exact (Turn.refl _ _).drew | with_reducible exact (Turn.refl _ _).drewN _ | (apply turn_from; assumption))))
    (first
      | (go_simp; go_at_call 54; with_reducible refine G1.mono ?_; rintro e wn ⟨rfl, j, rfl⟩)
      | (go_simp; go_at_call 56; with_reducible refine (G2 _).mono ?_; rintro e wn ⟨rfl, Sn, Tn⟩))
  go_wp2
  go_end0
  exact ⟨rfl, Sn, (Turn.of hb02).trans (turn_from Tn)⟩

end Go.Proofs.Ytbhkndblolegaaa
