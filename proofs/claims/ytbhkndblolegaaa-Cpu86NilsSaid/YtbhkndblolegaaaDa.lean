/- The walk of pidginlaw11.alive. -/
import Derived.Test.YtbhkndblolegaaaDo
import Derived.Test.YtbhkndblolegaaaDs
namespace Go.Proofs.Ytbhkndblolegaaa
open Go.RowKit
set_option linter.unusedVariables false
set_option linter.unusedSimpArgs false

theorem withL_byt_ok {l : Plc} (h : l.Ok) (ip : Int) (bs : List Int) (hb : Byt bs) : (withL ip bs l).Ok := withL_ok h ip bs hb
/-- with, and then Open: of a start in memory, and bytes. -/
theorem liesP_nil (w : World) : LiesP w (.slice none 0 0) [] := ⟨none, 0, rfl, fun _ => ⟨rfl, rfl⟩, fun h => absurd h (by decide)⟩
theorem liesB_nil (w : World) : LiesB w (.slice none 0 0) [] := by
  refine ⟨none, 0, rfl, fun _ => ⟨rfl, rfl⟩, ?_⟩
  intro a ha
  cases ha
theorem plc_nil : Plc.Ok [] := by
  intro p hp
  cases hp
theorem begin_nil (w : World) (r : Rg) (hr : r.Ok) (hh : r.halt = false) : Begin w r (.slice none 0 0) (.slice none 0 0) (.slice none 0 0) [] [] [] :=
  ⟨hr, hh, liesB_nil w, liesP_nil w, liesP_nil w, plc_nil, plc_nil, by decide, by decide, by decide⟩
theorem liesB_own {w : World} {b cap : Nat} {bs : List Int} (h : ∀ j, j < bs.length → w.cell? ⟨b, j, none⟩ = some (.int .u8 (bs.getD j 0))) : LiesB w (.slice (some ⟨b, 0, none⟩) bs.length cap) bs := by
  refine ⟨some ⟨b, 0, none⟩, cap, rfl, (fun q => by cases q), ?_⟩
  intro a ha j hj
  cases ha
  rw [Addr.add_lit, Nat.zero_add]
  exact h j hj
theorem Begin.with_ {w w1 : World} {r : Rg} {vi vc vd vc' : Value} {zs : List Int} {lc ld : Plc} (h : Begin w r vi vc vd zs lc ld) (k : Below w.heap.size w w1) (bs : List Int) (hb : Byt bs) (hl : lc.length + bs.length ≤ 2000) (hc : LiesP w1 vc' (withL r.ip bs lc)) :
    Begin w1 r vi vc' vd zs (withL r.ip bs lc) ld :=
  ⟨h.ok, h.halt, h.i.below k, hc, h.d.below k, withL_ok h.cok _ _ hb, h.dok, h.il, by rw [withL, withK_len]; exact hl, h.dl⟩
/-- The four bytes where bytes have been laid. -/
theorem fetch_with (ip : Int) (i0 : 0 ≤ ip) (i1 : ip ≤ 65535) (bs : List Int) (l : Plc) (hl : bs.length ≤ 65536) (j : Nat) (hj : j < 4) (hj2 : j < bs.length) : (fetchL (memL (withL ip bs l)) ip).getD j 0 = bs.getD j 0 := by
  have h := memL_withL ip bs l j hj2 hl
  have : j = 0 ∨ j = 1 ∨ j = 2 ∨ j = 3 := by omega
  rcases this with rfl | rfl | rfl | rfl
  · have e : ((ip + ((0 : Nat) : Int)) % 65536).toNat = ip.toNat := by omega
    rw [e] at h
    exact h
  · exact h
  · exact h
  · exact h

/-- The chapter's example. -/
def rA : Rg := { R := fun i => if i = 3 then 65535 else 0, F := ⟨false, false, false, false, false⟩, ip := 0, ie := false, halt := false }
theorem byt67 : Byt [67] := by
  intro x hx
  simp at hx
  omega
theorem rA_ok : rA.Ok := ⟨fun i => by simp only [rA]; split <;> omega, fun i => by simp only [rA]; split <;> omega, by decide, by decide⟩
theorem readA : readL (fetchL (memL (withL rA.ip [67] [])) rA.ip) = (10, 12, 0, 0, 1, 0) := by decide +kernel
def stA : St := doesL (pastL ⟨rA, memL []⟩ (1 : Int).toNat) 10 12 0 0
theorem stA_is : stA.r.R 3 = 0 ∧ stA.r.F.s = false ∧ stA.r.F.z = true ∧ stA.r.F.a = true ∧ stA.r.F.p = true ∧ stA.r.F.c = false ∧ stA.r.ip = 1 := by decide +kernel
theorem stA_cells {w : World} {g db cap : Nat} {vi vo vc : Value} (h : Sits w g db cap vi vo vc (doesL (pastL ⟨rA, memL []⟩ (1 : Int).toNat) 10 12 0 0)) :
    w.cell? ⟨g, 3, none⟩ = some (.int .u16 0) ∧ w.cell? ⟨g, 8, none⟩ = some (.bool false) ∧ w.cell? ⟨g, 9, none⟩ = some (.bool true) ∧ w.cell? ⟨g, 10, none⟩ = some (.bool true) ∧ w.cell? ⟨g, 11, none⟩ = some (.bool true) ∧ w.cell? ⟨g, 12, none⟩ = some (.bool false) ∧ w.cell? ⟨g, 13, none⟩ = some (.int .u16 1) := by
  have h' : Sits w g db cap vi vo vc stA := h
  have k := mach_cells h'.m
  obtain ⟨a1, a2, a3, a4, a5, a6, a7⟩ := stA_is
  refine ⟨a1 ▸ k.r3, a2 ▸ k.fs, a3 ▸ k.fz, a4 ▸ k.fa, a5 ▸ k.fp, a6 ▸ k.fc, a7 ▸ k.ip⟩
theorem two_far {B g db : Nat} (hg : B ≤ g) (hd : B ≤ db) : ∀ i, two g db i → B ≤ i := by
  intro i hi
  rcases hi with rfl | rfl
  · exact hg
  · exact hd

set_option maxRecDepth 100000 in
set_option maxHeartbeats 2000000 in
theorem alive11 (w : World) : Calls Try.prog 15 #[] w fun e w' => e = .returned (.bool true) ∧ Below w.heap.size w w' := by
  have o1 := own_new w #[.int .u8 67] 5
  have b1 : Below w.heap.size w (w.alloc (.cells #[.int .u8 67] 5)) := balloc (Below.refl _ _) _
  have hw : Calls Try.prog 18 #[.agg #[.int .u16 0, .int .u16 0, .int .u16 0, .int .u16 65535, .int .u16 0, .int .u16 0, .int .u16 0, .int .u16 0, .bool false, .bool false, .bool false, .bool false, .bool false, .int .u16 0, .bool false, .slice none 0 0, .slice none 0 0, .slice none 0 0], .slice (some ⟨w.heap.size, 0, none⟩) 1 1] (w.alloc (.cells #[.int .u8 67] 5)) _ :=
    with_any rA rA_ok (.slice none 0 0) (.slice none 0 0) rfl rfl (.slice none 0 0) (.slice (some ⟨w.heap.size, 0, none⟩) 1 1) [] [67] (by decide) (by decide) _ (liesP_nil _) (liesB_own (bs := [67]) (fun j hj => by obtain rfl : j = 0 := (by simpa using hj); exact o1.cell 0))
  clear o1
  go_enter Try.func15, Try.ntmps15
  go_wp2_with (first
    | (go_at_call 18; (with_reducible refine hw.mono ?_); rintro e w2 ⟨vc', rfl, hc2, hb2⟩)
    | (go_at_call 17; (with_reducible refine (open_any rA _ vc' _ [] (withL rA.ip [67] []) [] w2 ((begin_nil _ rA rA_ok rfl).with_ hb2 [67] byt67 (by decide) hc2)).mono ?_); rintro e w3 ⟨g, cb, db, ccap, cap, icap, p, ra, gr, capr, gc, gd, rfl, Q⟩; have hS := step_goes g db cap cb ccap _ _ _ (memL_ok (withL_byt_ok plc_nil rA.ip [67] byt67)) _ rfl w3 Q.s Q.c Q.cc 10 12 0 0 1 readA (by decide) (by decide) (by decide) (by decide) Q.cg Q.cd)
    | (go_at_call 19; (with_reducible refine hS.mono ?_); rintro e w4 ⟨rfl, S4, M4, T4⟩; obtain ⟨q3, q8, q9, q10, q11, q12, q13⟩ := stA_cells S4))
  go_ret
  have bb := bthen hb2 b1
  have b3 := bthen Q.below bb
  have g0 := Q.g0
  have z := bb.size
  exact ⟨rfl, T4.below b3 b3.size (two_far (by omega) (by omega))⟩

end Go.Proofs.Ytbhkndblolegaaa
