/- The walk of the law Cpu86Nils: whatever comes in, the law returns true, and nothing that was there has changed. -/
import Derived.Test.YtbhkndblolegaaaFa
import Derived.Test.YtbhkndblolegaaaEm
import Derived.Test.YtbhkndblolegaaaSt
namespace Go.Proofs.Ytbhkndblolegaaa
open Go.RowKit
set_option linter.unusedVariables false
set_option linter.unusedSimpArgs false

theorem LiesB.turn {S : Nat → Prop} {w w1 : World} {p : Option Addr} {n cap : Nat} {zs : List Int} (h : LiesB w (.slice p n cap) zs) (T : Turn S w w1) (hx : ∀ a, p = some a → ¬ S a.block) : LiesB w1 (.slice p n cap) zs := by
  obtain ⟨p2, cap2, e, hn, hs⟩ := h
  cases e
  refine ⟨p, cap, rfl, hn, fun a ha j hj => cell_turn (hs a ha j hj) T ?_⟩
  rw [show (a.add j).block = a.block by unfold Addr.add; split <;> rfl]
  exact hx a ha
theorem Told86.turn {S : Nat → Prop} {w w1 : World} {ra gr capr gd : Nat} {vi vo vc : Value} {s : St} (h : Told86 w ra gr capr gd vi vo vc s) (T : Turn S w w1) (h1 : ¬ S ra) (h2 : ¬ S gr) (h3 : ¬ S gd) : Told86 w1 ra gr capr gd vi vo vc s :=
  ⟨h.m.turn T h1, fun i hi => cell_turn (h.r i hi) T h2, fun i hi => frozen_turn (h.r i hi) (h.rf i hi) T h2, h.rc, h.d.turn T h3, h.n1, h.n2, h.n3, h.ok⟩
theorem Told86.below {w w1 : World} {ra gr capr gd : Nat} {vi vo vc : Value} {s : St} (h : Told86 w ra gr capr gd vi vo vc s) (k : Below w.heap.size w w1) : Told86 w1 ra gr capr gd vi vo vc s :=
  ⟨h.m.below k, fun i hi => cell_below (h.r i hi) k, fun i hi => frozen_below (h.r i hi) (h.rf i hi) k, h.rc, h.d.below k, h.n1, h.n2, h.n3, h.ok⟩
theorem Sits.far2 {S : Nat → Prop} {w w1 : World} {g db cap : Nat} {vi vo vc : Value} {s : St} (h : Sits w g db cap vi vo vc s) (T : Turn S w w1) (hg : ¬ S g) (hd : ¬ S db) : Sits w1 g db cap vi vo vc s := ⟨h.m.turn T hg, h.d.turn T hd, h.ne, h.cap, h.ok⟩
theorem byt244 : Byt [244] := by intro x hx; simp at hx; omega
theorem byt15 : Byt [15] := by intro x hx; simp at hx; omega

/-- Run of a machine that has halted. -/
theorem run_halted (g db cap : Nat) (vi vo vc : Value) (st : St) (hh : st.r.halt = true) (n : Int) (hn : n ≤ 1000000) (w : World) (h : Sits w g db cap vi vo vc st) :
    Calls Try.prog 16 #[at0 g, .int .i64 n] w fun e w' => e = .returned (.tuple #[.int .i64 0, .int .i64 (if (0 : Int) < n then 13 else 0)]) ∧ w' = w := by
  refine (run_inv g n hn 0 (.inr rfl) 13 (by decide) (fun _ X => X = w) (fun k X hk => absurd hk (Nat.not_lt_zero k)) (fun _ X hX => ?_) w rfl).mono ?_
  · subst hX
    exact step_halt g db cap vi vo vc st hh X h
  · rintro e w' ⟨rfl, rfl⟩
    exact ⟨rfl, rfl⟩
/-- Run of a machine that faults. -/
theorem run_faulted (g db cap cb ccap : Nat) (vi vo : Value) (C : Dat) (hCo : C.Ok) (st : St) (hh : st.r.halt = false) (n : Int) (hn : n ≤ 1000000) (w : World) (h : Sits w g db cap vi vo (.slice (some ⟨cb, 0, none⟩) 65536 ccap) st) (hC : Mem w cb C) (hcc : (65536 : Int) ≤ ccap)
    (hread : readL (fetchL C st.r.ip) = (0, 0, 0, 0, 0, 12)) :
    Calls Try.prog 16 #[at0 g, .int .i64 n] w fun e w' => e = .returned (.tuple #[.int .i64 0, .int .i64 (if (0 : Int) < n then 12 else 0)]) ∧ Below w.heap.size w w' := by
  refine (run_inv g n hn 0 (.inr rfl) 12 (by decide) (fun _ X => Below w.heap.size w X) (fun k X hk => absurd hk (Nat.not_lt_zero k)) (fun _ X hX => ?_) w (Below.refl _ _)).mono ?_
  · refine (step_fault g db cap cb ccap vi vo C hCo st hh X (h.below hX) (hC.below hX) hcc 12 (by decide) hread).mono ?_
    rintro e w' ⟨rfl, hb⟩
    exact ⟨rfl, bthen hb hX⟩
  · rintro e w' ⟨rfl, hb⟩
    exact ⟨rfl, hb⟩

end Go.Proofs.Ytbhkndblolegaaa
