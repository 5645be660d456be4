/- A start that came in, opened: its registers, its flags, its three slices; and a slice of bytes. -/
import Derived.Test.YtbhkndblolegaaaDa
import Derived.ProofKit
import Derived.OpenShut
import Derived.ShutString
import Derived.ChangeOld
import Derived.SizedLaws
namespace Go.Proofs.Ytbhkndblolegaaa
open Go.ChangeShapes Go.WideShapes Go.ChangeAt Go.RowKit
set_option linter.unusedVariables false
set_option linter.unusedSimpArgs false

theorem stCells : Try.prog.cellsOf 29 = 18 := by kernel_rfl
theorem stCellsR : Try.prog.cellsOf 23 = 8 := by kernel_rfl
theorem stCellsF : Try.prog.cellsOf 25 = 5 := by kernel_rfl
theorem stCellsU : Try.prog.cellsOf 22 = 1 := by kernel_rfl
theorem stCells8 : Try.prog.cellsOf 5 = 1 := by kernel_rfl
theorem stCellsB : Try.prog.cellsOf 4 = 1 := by kernel_rfl
theorem stCellsS : Try.prog.cellsOf 26 = 1 := by kernel_rfl
theorem stCellsP : Try.prog.cellsOf 27 = 1 := by kernel_rfl
theorem stCellsE : Try.prog.cellsOf 85 = 2 := by kernel_rfl
theorem stEighteen {α : Type} {cs : Array α} (h : cs.size = 18) : ∃ c0 c1 c2 c3 c4 c5 c6 c7 c8 c9 c10 c11 c12 c13 c14 c15 c16 c17, cs = #[c0, c1, c2, c3, c4, c5, c6, c7, c8, c9, c10, c11, c12, c13, c14, c15, c16, c17] := by
  obtain ⟨l⟩ := cs
  match l, h with
  | [c0, c1, c2, c3, c4, c5, c6, c7, c8, c9, c10, c11, c12, c13, c14, c15, c16, c17], _ => exact ⟨c0, c1, c2, c3, c4, c5, c6, c7, c8, c9, c10, c11, c12, c13, c14, c15, c16, c17, rfl⟩
section
variable {H : Type} {enc : TypeId × Value → H} {W : World} {base : Nat} {sp : Nat → Bool} {held : Bool}
theorem stInt {n : Nat} {v : Value} {t : TypeId} {k : IntKind} {y : DataW H × List MemPlace} (ht : Try.prog.underlying t = some (.int k)) (h : DataW.trod enc Try.prog W base sp held n t [v] = some y) : ∃ x, v = .int k x ∧ (Lit.int k x).wf = true := by
  obtain ⟨x, e0, rfl, wx⟩ := DataW.trod_int ht h
  simp at e0
  exact ⟨x, e0, wx⟩
theorem stBool {n : Nat} {v : Value} {y : DataW H × List MemPlace} (h : DataW.trod enc Try.prog W base sp held n 4 [v] = some y) : ∃ b, v = .bool b := by
  obtain ⟨b, e0, rfl⟩ := DataW.trod_bool Try.underlying4 h
  simp at e0
  exact ⟨b, e0⟩
set_option maxRecDepth 100000 in
theorem stU16 {m : Int} (wm : (Lit.int .u16 m).wf = true) : 0 ≤ m ∧ m ≤ 65535 := by simpa [Lit.wf, IntKind.min, IntKind.max, IntKind.signed, IntKind.bits] using wm
set_option maxRecDepth 100000 in
theorem stU8 {m : Int} (wm : (Lit.int .u8 m).wf = true) : 0 ≤ m ∧ m ≤ 255 := by simpa [Lit.wf, IntKind.min, IntKind.max, IntKind.signed, IntKind.bits] using wm
/-- A slice of bytes. -/
theorem stBytes {n : Nat} {v : Value} {y : DataW H × List MemPlace} (h : DataW.trod enc Try.prog W base sp held n 26 [v] = some y) : ∃ zs, LiesB W v zs ∧ Byt zs ∧ v.oneCell' = true := by
  rcases open_ints Try.underlying26 Try.underlying5 stCells8 h with ⟨e, _⟩ | ⟨a, len, cap, zs, e, _, hlc, _, hlen, _, hc, hw⟩
  · simp at e
    subst e
    exact ⟨[], ⟨none, 0, rfl, fun _ => ⟨rfl, rfl⟩, (by intro a ha; cases ha)⟩, (by intro x hx; cases hx), rfl⟩
  · simp at e
    subst e
    have hl : len ≤ zs.length := by rw [hlen]; split <;> omega
    have ht : (zs.take len).length = len := by simp; omega
    refine ⟨zs.take len, ⟨some a, cap, by rw [ht], (by intro q; cases q), ?_⟩, fun x hx => stU8 (hw x (List.mem_of_mem_take hx)), rfl⟩
    intro a' ha j hj
    cases ha
    rw [ht] at hj
    have := hc j (by omega)
    rw [this]
    simp [List.getD, List.getElem?_take, hj]
/-- A slice of bytes by places. -/
theorem stPlaces {n : Nat} {v : Value} {y : DataW H × List MemPlace} (h : DataW.trod enc Try.prog W base sp held n 27 [v] = some y) : ∃ l, LiesP W v l ∧ l.Ok ∧ v.oneCell' = true := by
  rcases DataW.trod_slice Try.underlying27 h with ⟨e, _⟩ | ⟨a, len, cap, elems, rest, m, _, e, _, _, _, _, hlen, hel, _, _⟩
  · simp at e
    subst e
    exact ⟨[], liesP_nil W, plc_nil, rfl⟩
  · simp at e
    subst e
    have each : ∀ i, i < len → ∃ x y : Int, W.cell? (a.add (i * 2)) = some (.int .u16 x) ∧ W.cell? ((a.add (i * 2)).add 1) = some (.int .u8 y) ∧ (0 ≤ x ∧ x ≤ 65535) ∧ 0 ≤ y ∧ y ≤ 255 := by
      intro i hi
      have q := hel i hi
      have hs : ∃ z, elems[i]? = some z := ⟨elems[i], by simp [hlen ▸ hi]⟩
      obtain ⟨z, hz⟩ := hs
      rw [hz, Option.bind_eq_some_iff, stCellsE] at q
      obtain ⟨cs, hcs, hz⟩ := q
      obtain ⟨_, hl2, hcell⟩ := World.cells?_some hcs
      match cs, hl2 with
      | [u, v], _ =>
        obtain ⟨xs, m', _, _, _, hlen2, hf⟩ := DataW.trod_struct Try.underlying85 hz
        match xs, hlen2 with
        | [y0, y1], _ =>
          have f0 := hf 0 _ rfl
          have f1 := hf 1 _ rfl
          simp [stCellsU, stCells8] at f0 f1
          obtain ⟨x, rfl, wx⟩ := stInt Try.underlying22 f0
          obtain ⟨y, rfl, wy⟩ := stInt Try.underlying5 f1
          have k0 := hcell 0 (by decide)
          have k1 := hcell 1 (by decide)
          refine ⟨x, y, ?_, by simpa using k1, stU16 wx, stU8 wy⟩
          simpa [Addr.add] using k0
    obtain ⟨X, hX⟩ := Classical.axiomOfChoice (r := fun (i : Nat) (q : Int × Int) => i < len → W.cell? (a.add (i * 2)) = some (.int .u16 q.1) ∧ W.cell? ((a.add (i * 2)).add 1) = some (.int .u8 q.2) ∧ (0 ≤ q.1 ∧ q.1 ≤ 65535) ∧ 0 ≤ q.2 ∧ q.2 ≤ 255) (fun i => by
      by_cases hi : i < len
      · obtain ⟨x, y, h⟩ := each i hi
        exact ⟨(x, y), fun _ => h⟩
      · exact ⟨(0, 0), fun q => absurd q hi⟩)
    have hl : ((List.range len).map X).length = len := by simp
    refine ⟨(List.range len).map X, ⟨some a, cap, by rw [hl], (by intro q; cases q), fun h0 => ?_⟩, ?_, rfl⟩
    · rw [hl] at h0
      have k0 := (hX 0 h0).1
      have hsp : a.spot = none := by
        simp only [Nat.zero_mul, Addr.add, if_true] at k0
        unfold World.cell? at k0
        split at k0
        · split at k0
          · cases k0
          · rename_i hs; simpa using hs
        · cases k0
      obtain ⟨b, off, spt⟩ := a
      simp only at hsp
      subst hsp
      refine ⟨b, off, rfl, fun j hj => ?_⟩
      rw [hl] at hj
      have k := hX j hj
      have e : ((List.range len).map X).getD j (0, 0) = X j := by simp [List.getD, hj]
      rw [e]
      rw [Addr.add_lit, Addr.add_lit] at k
      exact ⟨k.1, k.2.1⟩
    · intro p hp
      obtain ⟨i, hi, rfl⟩ := List.mem_map.1 hp
      exact (hX i (by simpa using hi)).2.2
set_option maxRecDepth 100000 in
set_option maxHeartbeats 1000000 in
theorem open_start {b0 : Nat} {r : Reach} {v : Value} {d : DataW H} {p : List MemPlace} (hv : Value.okWide Try.prog W r b0 29 v) (h : DataW.Trod enc Try.prog W base sp held 29 v d p) :
    ∃ (g : Rg) (vi vc vd : Value) (zs : List Int) (lc ld : Plc), v = .agg (cellsT g vi vc vd) ∧ g.Ok ∧ g.halt = false ∧ LiesB W vi zs ∧ Byt zs ∧ LiesP W vc lc ∧ LiesP W vd ld ∧ lc.Ok ∧ ld.Ok ∧ vi.oneCell' = true ∧ vc.oneCell' = true ∧ vd.oneCell' = true := by
  obtain ⟨cs, rfl, hsz⟩ := okWide_struct Try.underlying29 hv
  obtain ⟨c0, c1, c2, c3, c4, c5, c6, c7, c8, c9, c10, c11, c12, c13, c14, c15, c16, c17, rfl⟩ := stEighteen (hsz.trans stCells)
  obtain ⟨fuel, hf⟩ := h
  obtain ⟨xs, n, _, _, hl, hlen, hf⟩ := DataW.trod_struct Try.underlying29 hf
  match xs, hlen with
  | [y0, y1, y2, y3, y4, y5, y6], _ =>
    have f0 := hf 0 _ rfl
    have f1 := hf 1 _ rfl
    have f2 := hf 2 _ rfl
    have f3 := hf 3 _ rfl
    have f4 := hf 4 _ rfl
    have f5 := hf 5 _ rfl
    have f6 := hf 6 _ rfl
    simp [stCellsR, stCellsF, stCellsU, stCellsB, stCellsS, stCellsP] at f0 f1 f2 f3 f4 f5 f6
    obtain ⟨ys, m, _, _, _, hyl, hy⟩ := DataW.trod_array Try.underlying23 f0
    match ys, hyl with
    | [z0, z1, z2, z3, z4, z5, z6, z7], _ =>
      have g0 := hy 0 (by decide)
      have g1 := hy 1 (by decide)
      have g2 := hy 2 (by decide)
      have g3 := hy 3 (by decide)
      have g4 := hy 4 (by decide)
      have g5 := hy 5 (by decide)
      have g6 := hy 6 (by decide)
      have g7 := hy 7 (by decide)
      simp [stCellsU] at g0 g1 g2 g3 g4 g5 g6 g7
      obtain ⟨r0, rfl, w0⟩ := stInt Try.underlying22 g0
      obtain ⟨r1, rfl, w1⟩ := stInt Try.underlying22 g1
      obtain ⟨r2, rfl, w2⟩ := stInt Try.underlying22 g2
      obtain ⟨r3, rfl, w3⟩ := stInt Try.underlying22 g3
      obtain ⟨r4, rfl, w4⟩ := stInt Try.underlying22 g4
      obtain ⟨r5, rfl, w5⟩ := stInt Try.underlying22 g5
      obtain ⟨r6, rfl, w6⟩ := stInt Try.underlying22 g6
      obtain ⟨r7, rfl, w7⟩ := stInt Try.underlying22 g7
      obtain ⟨us, m2, _, _, _, hul, hu⟩ := DataW.trod_struct Try.underlying25 f1
      match us, hul with
      | [u0, u1, u2, u3, u4], _ =>
        have e0 := hu 0 _ rfl
        have e1 := hu 1 _ rfl
        have e2 := hu 2 _ rfl
        have e3 := hu 3 _ rfl
        have e4 := hu 4 _ rfl
        simp [stCellsB] at e0 e1 e2 e3 e4
        obtain ⟨s, rfl⟩ := stBool e0
        obtain ⟨z, rfl⟩ := stBool e1
        obtain ⟨x, rfl⟩ := stBool e2
        obtain ⟨pp, rfl⟩ := stBool e3
        obtain ⟨c, rfl⟩ := stBool e4
        obtain ⟨ip, rfl, wip⟩ := stInt Try.underlying22 f2
        obtain ⟨ie, rfl⟩ := stBool f3
        obtain ⟨zs, hzs, hbz, ho1⟩ := stBytes f4
        obtain ⟨lc, hlc, hoc, ho2⟩ := stPlaces f5
        obtain ⟨ld, hld, hod, ho3⟩ := stPlaces f6
        have q0 := stU16 w0
        have q1 := stU16 w1
        have q2 := stU16 w2
        have q3 := stU16 w3
        have q4 := stU16 w4
        have q5 := stU16 w5
        have q6 := stU16 w6
        have q7 := stU16 w7
        have qi := stU16 wip
        have hok : ∀ i : Nat, 0 ≤ [r0, r1, r2, r3, r4, r5, r6, r7].getD i 0 ∧ [r0, r1, r2, r3, r4, r5, r6, r7].getD i 0 ≤ 65535 := by
          intro i
          match i with
          | 0 => exact q0
          | 1 => exact q1
          | 2 => exact q2
          | 3 => exact q3
          | 4 => exact q4
          | 5 => exact q5
          | 6 => exact q6
          | 7 => exact q7
          | _ + 8 => exact ⟨by simp [List.getD], by simp [List.getD]⟩
        exact ⟨{ R := fun i => [r0, r1, r2, r3, r4, r5, r6, r7].getD i 0, F := ⟨s, z, x, pp, c⟩, ip := ip, ie := ie, halt := false }, c15, c16, c17, zs, lc, ld, rfl, ⟨fun i => (hok i).1, fun i => (hok i).2, qi.1, qi.2⟩, rfl, hzs, hbz, hlc, hld, hoc, hod, ho1, ho2, ho3⟩
end

end Go.Proofs.Ytbhkndblolegaaa
