/- The law Isa86Back: for every input the call returns true, and each argument reads afterwards as it read before. -/
import Derived.Test.YtbhkndblolegaaaRows
import Derived.Test.YtbhkndblolegaaaJa
import Derived.WalkKit
import Derived.ProofKit
import Derived.OpenShut
import Derived.ShutString
import Derived.ChangeOld
import Derived.Below
import Derived.SizedLaws
namespace Go.Proofs.Ytbhkndblolegaaa.isa86Back
open Go.ChangeShapes Go.WideShapes Go.ChangeAt Go.RowKit
set_option linter.unusedVariables false
theorem own : ownKnob Try.prog.godebug = none := by kernel_rfl
theorem laidOut : laidOutB Try.prog = true := by kernel_rfl
theorem four {α : Type} {cs : Array α} (h : cs.size = 4) : ∃ c0 c1 c2 c3, cs = #[c0, c1, c2, c3] := by
  obtain ⟨l⟩ := cs
  match l, h with
  | [c0, c1, c2, c3], _ => exact ⟨c0, c1, c2, c3, rfl⟩
theorem cellsI64 : Try.prog.cellsOf 3 = 1 := by kernel_rfl
theorem cellsU16 : Try.prog.cellsOf 22 = 1 := by kernel_rfl
theorem cellsIns : Try.prog.cellsOf 59 = 4 := by kernel_rfl
theorem intCell {H : Type} {enc : TypeId × Value → H} {W : World} {base : Nat} {sp : Nat → Bool} {held : Bool} {n : Nat} {v : Value} {t : TypeId} {k : IntKind} {y : DataW H × List MemPlace} (ht : Try.prog.underlying t = some (.int k)) (h : DataW.trod enc Try.prog W base sp held n t [v] = some y) : ∃ x, v = .int k x ∧ (Lit.int k x).wf = true := by
  obtain ⟨x, e0, rfl, wx⟩ := DataW.trod_int ht h
  simp at e0
  exact ⟨x, e0, wx⟩
set_option maxRecDepth 100000 in
theorem u16_wf {m : Int} (wm : (Lit.int .u16 m).wf = true) : 0 ≤ m ∧ m ≤ 65535 := by simpa [Lit.wf, IntKind.min, IntKind.max, IntKind.signed, IntKind.bits] using wm
set_option maxRecDepth 100000 in
theorem open_ins {H : Type} {enc : TypeId × Value → H} {W : World} {base b0 : Nat} {sp : Nat → Bool} {held : Bool} {r : Reach} {v : Value} {d : DataW H} {p : List MemPlace} (hv : Value.okWide Try.prog W r b0 59 v) (h : DataW.Trod enc Try.prog W base sp held 59 v d p) :
    ∃ a b c n, v = .agg #[.int .i64 a, .int .i64 b, .int .i64 c, .int .u16 n] ∧ 0 ≤ n ∧ n ≤ 65535 := by
  obtain ⟨cs, rfl, hsz⟩ := okWide_struct Try.underlying59 hv
  obtain ⟨c0, c1, c2, c3, rfl⟩ := four (hsz.trans cellsIns)
  obtain ⟨fuel, hf⟩ := h
  obtain ⟨xs, n, _, _, hl, hlen, hf⟩ := DataW.trod_struct Try.underlying59 hf
  match xs, hlen with
  | [y0, y1, y2, y3], _ =>
    have e := cellsI64
    have e' := cellsU16
    have f0 := hf 0 _ rfl
    have f1 := hf 1 _ rfl
    have f2 := hf 2 _ rfl
    have f3 := hf 3 _ rfl
    simp [e, e'] at f0 f1 f2 f3
    obtain ⟨a, rfl, _⟩ := intCell Try.underlying3 f0
    obtain ⟨b, rfl, _⟩ := intCell Try.underlying3 f1
    obtain ⟨c, rfl, _⟩ := intCell Try.underlying3 f2
    obtain ⟨m, rfl, wm⟩ := intCell Try.underlying22 f3
    have bm := u16_wf wm
    exact ⟨a, b, c, m, rfl, bm.1, bm.2⟩
theorem cellsBy : Try.prog.cellsOf 5 = 1 := by kernel_rfl
set_option maxRecDepth 100000 in
theorem by_wf {m : Int} (wm : (Lit.int .u8 m).wf = true) : 0 ≤ m ∧ m ≤ 255 := by simpa [Lit.wf, IntKind.min, IntKind.max, IntKind.signed, IntKind.bits] using wm
set_option maxRecDepth 100000 in
theorem open_by {H : Type} {enc : TypeId × Value → H} {W : World} {base b0 : Nat} {sp : Nat → Bool} {held : Bool} {r : Reach} {v : Value} {d : DataW H} {p : List MemPlace} (hv : Value.okWide Try.prog W r b0 26 v) (h : DataW.Trod enc Try.prog W base sp held 26 v d p) :
    ∃ zs : List Int, (∃ p cap, v = .slice p zs.length cap ∧ (p = none → zs.length = 0 ∧ cap = 0) ∧ ∀ a, p = some a → ∀ j, j < zs.length → W.cell? (a.add j) = some (.int .u8 (zs.getD j 0))) ∧ Byt zs := by
  obtain ⟨a, len, cap, rfl⟩ := okWide_slice Try.underlying26 hv
  obtain ⟨fuel, hf⟩ := h
  rcases open_ints Try.underlying26 Try.underlying5 cellsBy hf with ⟨e, _⟩ | ⟨a, len, cap, zs, e, _, hlc, _, hlen, _, hc, hw⟩
  · simp [Value.cells] at e
    obtain ⟨rfl, rfl, rfl⟩ := e
    exact ⟨[], ⟨none, 0, rfl, fun _ => ⟨rfl, rfl⟩, (by intro a ha; cases ha)⟩, (by intro x hx; cases hx)⟩
  · simp [Value.cells] at e
    obtain ⟨rfl, rfl, rfl⟩ := e
    have hl : len ≤ zs.length := by rw [hlen]; split <;> omega
    have ht : (zs.take len).length = len := by simp; omega
    refine ⟨zs.take len, ⟨some a, cap, by rw [ht], (by intro q; cases q), ?_⟩, fun x hx => by_wf (hw x (List.mem_of_mem_take hx))⟩
    intro a' ha j hj
    cases ha
    rw [ht] at hj
    have := hc j (by omega)
    rw [this]
    simp [List.getD, hj]
set_option maxRecDepth 100000 in
theorem lifted (os : Os) (started : os.Started) (H : Type) (enc : TypeId × Value → H) :
    ReturnsInHanded {} Try.checked os 8 .any (Rows.isa86BackSpec.pre6 enc Try.prog Try.f8 Rows.isa86BackRow.domain false) (Rows.isa86BackSpec.post enc Try.prog Try.f8 false true false false) := by
  refine returnsInHanded_of_change_sized (C := Try.checked) own started (by kernel_rfl) Try.func8
    (ChangeSpec.witness6 (enc := enc) (C := Try.checked) false ⟨#[], #[.agg #[.int .i64 0, .int .i64 0, .int .i64 0, .int .u16 0], .slice none 0 0], []⟩ 8 (by kernel_rfl) (by kernel_rfl) (by kernel_rfl) (by kernel_rfl)) ?_
  intro W base args ds gs before hval0 hW hcnd hsz0 _
  have hval : ∀ (j : Nat) t v, Try.f8.params[j]? = some t → args[j]? = some v → Value.okWide Try.prog W .any base t v := hval0
  have hW' := hW
  obtain ⟨p, q, hA0, hV, rfl, hfz, hnd⟩ := hW
  have hA : DataW.TrodAll enc Try.prog W 0 (fun _ => true) true Try.f8.params.toList args.toList ds p := hA0
  rw [Try.params8] at hA hval
  obtain ⟨v0, vs0, d0, ds0, p0, q0, hargs, rfl, rfl, h0, r0⟩ := trodAll_cons hA
  obtain ⟨v1, vs1, d1, ds1, p1, q1, rfl, rfl, rfl, h1, r1⟩ := trodAll_cons r0
  obtain ⟨rfl, rfl, rfl⟩ := trodAll_nil r1
  obtain rfl : args = #[v0, v1] := by cases args; simp_all
  obtain ⟨rfl, rfl⟩ := trodVars_none hV
  have k0 := h0
  have lt0 : ∀ x ∈ p0, x.block < W.heap.size := by obtain ⟨m, hm⟩ := k0; exact DataW.trod_lt m _ _ _ hm
  obtain ⟨o0, e0, s0, n0, rfl, lo0, hi0⟩ := open_ins (hval 0 59 v0 rfl rfl) h0
  have k1 := h1
  have lt1 : ∀ x ∈ p1, x.block < W.heap.size := by obtain ⟨m, hm⟩ := k1; exact DataW.trod_lt m _ _ _ hm
  obtain ⟨zs1, hz1, hy1⟩ := open_by (hval 1 26 v1 rfl rfl) h1
  clear hA0 hval0 hsz0
  refine (isa86Back_any o0 e0 s0 n0 v1 zs1 hy1 lo0 hi0 W hz1).mono fun e W' ⟨he, bel⟩ => ?_
  subst he
  exact ⟨_, rfl, _, _, _, [], _, [], hW', trodAll_mk1 (shut_bool Try.underlying4 _), (trodAll_cons_mk (Below.trod laidOut (by kernel_rfl) (of_decide_eq_true (by kernel_rfl)) k0 bel lt0) (trodAll_cons_mk (Below.trod laidOut (by kernel_rfl) (of_decide_eq_true (by kernel_rfl)) k1 bel lt1) trodAll_mk0)), rfl, bel.frame _, fun h => by cases h⟩
theorem over : Rows.isa86BackRow.holds Try.pinned (OpenSpec.ofChange Rows.isa86BackSpec) :=
  OpenClaim.holds_of_wide 8 Try.f8 rfl rfl rfl rfl rfl rfl rfl ⟨rfl, rfl, rfl, rfl, rfl⟩ rfl rfl rfl rfl rfl (by kernel_rfl) Try.func8 (by kernel_rfl)
    (of_decide_eq_true (by kernel_rfl)) (by unfold Func.isWrapper; first | (rw [if_pos (by decide +kernel)]; kernel_rfl) | (rw [if_neg (by decide +kernel)]; exact ⟨rfl, rfl⟩))
    (fun os started H enc _ => lifted os started H enc)
theorem proved : Rows.Isa86BackSaid := over
#print axioms proved
end Go.Proofs.Ytbhkndblolegaaa.isa86Back
namespace Go.Proofs.Ytbhkndblolegaaa
/-- The row, under a short name, for the claim. -/
theorem isa86Back_holds : Rows.Isa86BackSaid := isa86Back.proved
end Go.Proofs.Ytbhkndblolegaaa
