/- The walk of the law Cpu86AsEight: whatever comes in, the law returns true, and nothing that was there has changed. -/
import Derived.Test.YtbhkndblolegaaaDa
import Derived.Test.YtbhkndblolegaaaEe
import Derived.Deep.RegionHeld3
namespace Go.Proofs.Ytbhkndblolegaaa
open Go.RowKit
set_option linter.unusedVariables false
set_option linter.unusedSimpArgs false

theorem with_nil (r : Rg) (hr : r.Ok) (hh : r.halt = false) (vb : Value) (bs : List Int) (hb : Byt bs) (hl : bs.length ≤ 1000) (w : World) (h : LiesB w vb bs) :
    Calls Try.prog 18 #[.agg (cellsT r (.slice none 0 0) (.slice none 0 0) (.slice none 0 0)), vb] w fun e w' => ∃ vc', e = .returned (.agg (cellsT r (.slice none 0 0) vc' (.slice none 0 0))) ∧ Begin w' r (.slice none 0 0) vc' (.slice none 0 0) [] (withL r.ip bs []) [] ∧ Below w.heap.size w w' := by
  refine (with_any r hr _ _ rfl rfl _ vb [] bs (by decide) hl w (liesP_nil w) h).mono ?_
  rintro e w' ⟨vc', rfl, hc, hb'⟩
  exact ⟨vc', rfl, (begin_nil w r hr hh).with_ hb' bs hb (by simp; omega) hc, hb'⟩

abbrev stE (k a b : Int) (f : Fl) : St := doesL (pastL ⟨rE a b f, memL []⟩ (2 : Int).toNat) (k + 2) 1 2 0
abbrev Sums (n : Nat) (a b : Int) (c : Bool) (V : Int) (G : Fl) : Prop := ∀ w, Calls Try.prog n #[.int .u8 a, .int .u8 b, .bool c] w fun e w' => e = .returned (.tuple #[.int .u8 V, .agg #[.bool G.s, .bool G.z, .bool G.a, .bool G.p, .bool G.c]]) ∧ Below w.heap.size w w'
/-- Sums: the document's sum is the machine's. -/
theorem eight_refa (k a b : Int) (f : Fl) (c : Bool) (hk : k = 0 ∧ c = false ∨ k = 2 ∧ c = f.c) (a0 : 0 ≤ a) (a1 : a ≤ 255) (b0 : 0 ≤ b) (b1 : b ≤ 255) :
    ∃ V G, lowL (stE k a b f).r 0 = V ∧ (stE k a b f).r.F = G ∧ Sums 32 a b c V G := by
  obtain ⟨e1, e2⟩ := eight_st k a b f (memL []) (by omega) a0 a1 b0 b1
  have h := eight_add a b (decide (15 < a % 16 + b % 16 + cb c)) (cb c) a0 a1 b0 b1 (cb_lo c) (cb_hi c)
  have hn : sumN k a b f.c = a + b + cb c ∧ sumA k a b f.c = decide (15 < a % 16 + b % 16 + cb c) := by
    rcases hk with ⟨rfl, rfl⟩ | ⟨rfl, rfl⟩ <;> simp [sumN, sumA, cb]
  have k7 : ¬ k = 7 := by omega
  rw [if_neg k7] at e1
  refine ⟨_, _, rfl, rfl, ?_⟩
  rw [e1, e2, hn.1, hn.2, h]
  intro w
  exact radd_any a b c a0 a1 b0 b1 w
/-- Differences: but for the auxiliary carry. -/
theorem eight_refs (k a b : Int) (f : Fl) (c : Bool) (hk : k = 3 ∧ c = f.c ∨ k = 5 ∧ c = false ∨ k = 7 ∧ c = false) (a0 : 0 ≤ a) (a1 : a ≤ 255) (b0 : 0 ≤ b) (b1 : b ≤ 255) :
    ∃ V G, lowL (stE k a b f).r 0 = (if k = 7 then a else V) ∧ (stE k a b f).r.F = { G with a := !G.a } ∧ Sums 33 a b c V G := by
  obtain ⟨e1, e2⟩ := eight_st k a b f (memL []) (by omega) a0 a1 b0 b1
  have h := eight_sub a b (decide (a % 16 < b % 16 + cb c)) (cb c) a0 a1 b0 b1 (cb_lo c) (cb_hi c)
  have hx := eight_aux a b (cb c) c rfl
  have hn : sumN k a b f.c = (a - b - cb c) % 4294967296 ∧ sumA k a b f.c = decide (a % 16 < b % 16 + cb c) := by
    rcases hk with ⟨rfl, rfl⟩ | ⟨rfl, rfl⟩ | ⟨rfl, rfl⟩ <;> simp [sumN, sumA, cb]
  refine ⟨(a - b - cb c + 256) % 256, ⟨sgn ((a - b - cb c + 256) % 256), (a - b - cb c + 256) % 256 == 0, decide (15 < a % 16 + 15 - b % 16 + cb (!c)), par ((a - b - cb c + 256) % 256), decide (a - b - cb c < 0)⟩, ?_, ?_, ?_⟩
  · rw [e1, hn.1]
    have : flagsV 8 ((a - b - cb c) % 4294967296) = (a - b - cb c + 256) % 256 := by simp only [flagsV, if_true]; omega
    rw [this]
  · rw [e2, hn.1, hn.2, h, hx]
  · intro w
    exact rsub_any0 a b c a0 a1 b0 b1 w
/-- Any sum. -/
theorem eight_any (a b : Int) (c : Bool) (a0 : 0 ≤ a) (a1 : a ≤ 255) (b0 : 0 ≤ b) (b1 : b ≤ 255) : ∃ V G, Sums 32 a b c V G :=
  ⟨_, ⟨_, _, _, _, _⟩, fun w => radd_any a b c a0 a1 b0 b1 w⟩

set_option maxRecDepth 100000 in
set_option maxHeartbeats 2000000 in
theorem eight_0 (a b : Int) (f : Fl) (a0 : 0 ≤ a) (a1 : a ≤ 255) (b0 : 0 ≤ b) (b1 : b ≤ 255) (w : World) :
    Calls Try.prog 10 #[.int .u8 a, .int .u8 b, .int .i64 0, .agg #[.bool f.s, .bool f.z, .bool f.a, .bool f.p, .bool f.c]] w fun e w' => e = .returned (.bool true) ∧ Below w.heap.size w w' := by
  have wa : IntKind.u16.wrap a = a := by simp [IntKind.wrap, IntKind.bits, IntKind.signed]; omega
  have wb : IntKind.u16.wrap b = b := by simp [IntKind.wrap, IntKind.bits, IntKind.signed]; omega
  have hok := rE_ok a b f a0 (by omega) b0 (by omega)
  obtain ⟨W, hW⟩ : ∃ W, W = (w.alloc (.cells #[.bool f.s, .bool f.z, .bool f.a, .bool f.p, .bool f.c] 25)).alloc (.cells #[.int .u8 0, .int .u8 200] 5) := ⟨_, rfl⟩
  have o1 : Own W (w.heap.size + 1) #[.int .u8 0, .int .u8 200] 5 := by
    rw [hW]
    have := own_new (w.alloc (.cells #[.bool f.s, .bool f.z, .bool f.a, .bool f.p, .bool f.c] 25)) #[.int .u8 0, .int .u8 200] 5
    simpa using this
  have o0 : Own W w.heap.size #[.bool f.s, .bool f.z, .bool f.a, .bool f.p, .bool f.c] 25 := by rw [hW]; exact (own_new _ _ _).alloc _
  have bW : Below w.heap.size w W := by rw [hW]; exact balloc (balloc (Below.refl _ _) _) _
  have hw : Calls Try.prog 18 #[.agg #[.int .u16 a, .int .u16 b, .int .u16 0, .int .u16 0, .int .u16 0, .int .u16 0, .int .u16 0, .int .u16 0, .bool f.s, .bool f.z, .bool f.a, .bool f.p, .bool f.c, .int .u16 0, .bool false, .slice none 0 0, .slice none 0 0, .slice none 0 0], .slice (some ⟨w.heap.size + 1, 0, none⟩) 2 2] W _ :=
    with_nil (rE a b f) hok rfl (.slice (some ⟨w.heap.size + 1, 0, none⟩) 2 2) [8 * 0, 200] (by intro x hx; simp at hx; omega) (by decide) W (liesB_own (bs := [8 * 0, 200]) (fun j hj => by
      have : j = 0 ∨ j = 1 := by simp at hj; omega
      rcases this with rfl | rfl
      · exact o1.cell 0
      · exact o1.cell 1))
  rw [hW] at hw
  have O0 := Lib.hid o0
  have bW' := Lib.hid bW
  have R := read_e 0 (by simp) a b f
  obtain ⟨V, G, hV, hG, hAdd⟩ := eight_refa 0 a b f false (by simp) a0 a1 b0 b1
  obtain ⟨bs, hbs⟩ : ∃ bs, bs = [8 * (0 : Int), 200] := ⟨_, rfl⟩
  rw [← hbs] at hw R
  have hbyt : Byt bs := by rw [hbs]; intro x hx; simp at hx; omega
  clear hbs o0 o1 bW
  have hW' := Lib.hid hW
  clear hW
  have hV' := Lib.hid hV
  have hG' := Lib.hid hG
  clear hV hG
  go_enter Try.func10, Try.ntmps10
  go_upto_region 14 with (first
    | (go_at_call 18; (with_reducible refine hw.mono ?_); rintro e w2 ⟨vc', rfl, hB2, hb2⟩)
    | (go_at_call 17; (with_reducible refine (open_any (rE a b f) _ vc' _ [] (withL (rE a b f).ip bs []) [] w2 hB2).mono ?_); rintro e w3 ⟨g, cb, db, ccap, cap, icap, p, ra, gr, capr, gc, gd, rfl, Q⟩; have hS := step_goes g db cap cb ccap _ _ _ (memL_ok (withL_byt_ok plc_nil (rE a b f).ip bs hbyt)) _ rfl w3 Q.s Q.c Q.cc _ _ _ _ _ R (by decide) (by decide) (by decide) (by decide) Q.cg Q.cd)
    | (go_at_call 19; (with_reducible refine hS.mono ?_); rintro e w4 ⟨rfl, S4, M4, T4⟩; have b2 : Below w.heap.size w w2 := bthen (show Below W.heap.size W w2 from hW'.out ▸ hb2) bW'.out; have b34 : Below w2.heap.size w2 w4 := T4.below Q.below Q.below.size (two_far Q.g0.1 Q.g0.2.2); have b4 := bthen b34 b2; have k0 := O0.out.below (bthen b34 (show Below W.heap.size W w2 from hW'.out ▸ hb2)); have k04 := k0.five.2.2.2.2; have ltk := k0.lt)
    | (go_at_call 32; (with_reducible refine (hAdd _).mono ?_); rintro e w5 ⟨rfl, hb5⟩))
  obtain ⟨W6, hW6⟩ : ∃ W6, W6 = w5.alloc (.cells #[.bool G.s, .bool G.z, .bool G.a, .bool G.p, .bool G.c] 25) := ⟨_, rfl⟩
  have o6 : Own W6 w5.heap.size #[.bool G.s, .bool G.z, .bool G.a, .bool G.p, .bool G.c] 25 := by rw [hW6]; exact own_new _ _ _
  have b56 : Below w4.heap.size w4 W6 := by rw [hW6]; exact balloc hb5 _
  rw [← hW6]
  clear hW6
  have S6 : Sits W6 g db _ _ _ _ (stE 0 a b f) := S4.below b56
  have M6 := mach_cells S6.m
  have hG := hG'.out
  have kk : ∀ X, Below W6.heap.size W6 X → (X.cell? ⟨g, 8, none⟩ = some (.bool G.s) ∧ X.cell? ⟨g, 9, none⟩ = some (.bool G.z) ∧ X.cell? ⟨g, 10, none⟩ = some (.bool G.a) ∧ X.cell? ⟨g, 11, none⟩ = some (.bool G.p) ∧ X.cell? ⟨g, 12, none⟩ = some (.bool G.c) ∧ X.cell? ⟨w5.heap.size, 0, none⟩ = some (.bool G.s) ∧ X.cell? ⟨w5.heap.size, 1, none⟩ = some (.bool G.z) ∧ X.cell? ⟨w5.heap.size, 2, none⟩ = some (.bool G.a) ∧ X.cell? ⟨w5.heap.size, 3, none⟩ = some (.bool G.p) ∧ X.cell? ⟨w5.heap.size, 4, none⟩ = some (.bool G.c)) := fun X h => ⟨cell_below (by have q := M6.fs; rw [hG] at q; exact q) h, cell_below (by have q := M6.fz; rw [hG] at q; exact q) h, cell_below (by have q := M6.fa; rw [hG] at q; exact q) h, cell_below (by have q := M6.fp; rw [hG] at q; exact q) h, cell_below (by have q := M6.fc; rw [hG] at q; exact q) h, cell_below (o6.cell 0) h, cell_below (o6.cell 1) h, cell_below (o6.cell 2) h, cell_below (o6.cell 3) h, cell_below (o6.cell 4) h⟩
  have hL : ∀ X, Below W6.heap.size W6 X → Calls Try.prog 20 #[at0 g, .int .i64 0] X fun e w' => e = .returned (.int .u8 V) ∧ w' = X := fun X h => by
    have := Low_any g _ S6.ok.r _ _ _ _ 0 (by decide) (by decide) X (S6.m.below h)
    rw [show (0 : Int).toNat = 0 from rfl, hV'.out] at this
    exact this
  have b06 : Below w.heap.size w W6 := bthen b56 b4
  have B6 : Below W6.heap.size W6 W6.drew := bdrew (Below.refl _ _)
  clear hG M6 S6 S4 M4 T4 Q hS hAdd R k0 k04 b34 b2 b4
  go_region_held3 (fun X => (X.cell? ⟨g, 8, none⟩ = some (.bool G.s) ∧ X.cell? ⟨g, 9, none⟩ = some (.bool G.z) ∧ X.cell? ⟨g, 10, none⟩ = some (.bool G.a) ∧ X.cell? ⟨g, 11, none⟩ = some (.bool G.p) ∧ X.cell? ⟨g, 12, none⟩ = some (.bool G.c) ∧ X.cell? ⟨w5.heap.size, 0, none⟩ = some (.bool G.s) ∧ X.cell? ⟨w5.heap.size, 1, none⟩ = some (.bool G.z) ∧ X.cell? ⟨w5.heap.size, 2, none⟩ = some (.bool G.a) ∧ X.cell? ⟨w5.heap.size, 3, none⟩ = some (.bool G.p) ∧ X.cell? ⟨w5.heap.size, 4, none⟩ = some (.bool G.c)) ∧ Below W6.heap.size W6 X)
    ((refine (fun hT => ⟨kk _ hT, hT⟩) ?_; (repeat (first | with_reducible exact Below.refl _ _ | with_reducible assumption | with_reducible apply balloc | with_reducible apply bdrew | with_reducible apply bdrewN))))
    (first
      | (go_simp; go_at_call 20; (with_reducible refine (hL _ ?_).mono ?_); (focus (repeat (first | with_reducible exact Below.refl _ _ | with_reducible assumption | with_reducible apply balloc | with_reducible apply bdrew | with_reducible apply bdrewN))); rintro e wn ⟨rfl, rfl⟩)
      | (go_simp; go_at_call 34; (with_reducible refine (back_any _ _ _ _ _ _).mono ?_); rintro e wn ⟨rfl, hbn⟩; have hBn : Below W6.heap.size W6 wn := bthen hbn (by assumption))
      | (go_simp; go_at_call 15; (with_reducible refine (alive11 _).mono ?_); rintro e wm ⟨rfl, hbm⟩; have hBm : Below W6.heap.size W6 wm := bthen hbm (by assumption)))
  go_wp2
  go_ret
  exact ⟨rfl, bthen hBm b06⟩

set_option maxRecDepth 100000 in
set_option maxHeartbeats 2000000 in
theorem eight_2 (a b : Int) (f : Fl) (a0 : 0 ≤ a) (a1 : a ≤ 255) (b0 : 0 ≤ b) (b1 : b ≤ 255) (w : World) :
    Calls Try.prog 10 #[.int .u8 a, .int .u8 b, .int .i64 2, .agg #[.bool f.s, .bool f.z, .bool f.a, .bool f.p, .bool f.c]] w fun e w' => e = .returned (.bool true) ∧ Below w.heap.size w w' := by
  have wa : IntKind.u16.wrap a = a := by simp [IntKind.wrap, IntKind.bits, IntKind.signed]; omega
  have wb : IntKind.u16.wrap b = b := by simp [IntKind.wrap, IntKind.bits, IntKind.signed]; omega
  have hok := rE_ok a b f a0 (by omega) b0 (by omega)
  obtain ⟨W, hW⟩ : ∃ W, W = (w.alloc (.cells #[.bool f.s, .bool f.z, .bool f.a, .bool f.p, .bool f.c] 25)).alloc (.cells #[.int .u8 16, .int .u8 200] 5) := ⟨_, rfl⟩
  have o1 : Own W (w.heap.size + 1) #[.int .u8 16, .int .u8 200] 5 := by
    rw [hW]
    have := own_new (w.alloc (.cells #[.bool f.s, .bool f.z, .bool f.a, .bool f.p, .bool f.c] 25)) #[.int .u8 16, .int .u8 200] 5
    simpa using this
  have o0 : Own W w.heap.size #[.bool f.s, .bool f.z, .bool f.a, .bool f.p, .bool f.c] 25 := by rw [hW]; exact (own_new _ _ _).alloc _
  have bW : Below w.heap.size w W := by rw [hW]; exact balloc (balloc (Below.refl _ _) _) _
  have hw : Calls Try.prog 18 #[.agg #[.int .u16 a, .int .u16 b, .int .u16 0, .int .u16 0, .int .u16 0, .int .u16 0, .int .u16 0, .int .u16 0, .bool f.s, .bool f.z, .bool f.a, .bool f.p, .bool f.c, .int .u16 0, .bool false, .slice none 0 0, .slice none 0 0, .slice none 0 0], .slice (some ⟨w.heap.size + 1, 0, none⟩) 2 2] W _ :=
    with_nil (rE a b f) hok rfl (.slice (some ⟨w.heap.size + 1, 0, none⟩) 2 2) [8 * 2, 200] (by intro x hx; simp at hx; omega) (by decide) W (liesB_own (bs := [8 * 2, 200]) (fun j hj => by
      have : j = 0 ∨ j = 1 := by simp at hj; omega
      rcases this with rfl | rfl
      · exact o1.cell 0
      · exact o1.cell 1))
  rw [hW] at hw
  have O0 := Lib.hid o0
  have bW' := Lib.hid bW
  have R := read_e 2 (by simp) a b f
  obtain ⟨V, G, hV, hG, hAdd⟩ := eight_refa 2 a b f f.c (by simp) a0 a1 b0 b1
  obtain ⟨bs, hbs⟩ : ∃ bs, bs = [8 * (2 : Int), 200] := ⟨_, rfl⟩
  rw [← hbs] at hw R
  have hbyt : Byt bs := by rw [hbs]; intro x hx; simp at hx; omega
  clear hbs o0 o1 bW
  have hW' := Lib.hid hW
  clear hW
  have hV' := Lib.hid hV
  have hG' := Lib.hid hG
  clear hV hG
  go_enter Try.func10, Try.ntmps10
  go_upto_region 14 with (first
    | (go_at_call 18; (with_reducible refine hw.mono ?_); rintro e w2 ⟨vc', rfl, hB2, hb2⟩)
    | (go_at_call 17; (with_reducible refine (open_any (rE a b f) _ vc' _ [] (withL (rE a b f).ip bs []) [] w2 hB2).mono ?_); rintro e w3 ⟨g, cb, db, ccap, cap, icap, p, ra, gr, capr, gc, gd, rfl, Q⟩; have hS := step_goes g db cap cb ccap _ _ _ (memL_ok (withL_byt_ok plc_nil (rE a b f).ip bs hbyt)) _ rfl w3 Q.s Q.c Q.cc _ _ _ _ _ R (by decide) (by decide) (by decide) (by decide) Q.cg Q.cd)
    | (go_at_call 19; (with_reducible refine hS.mono ?_); rintro e w4 ⟨rfl, S4, M4, T4⟩; have b2 : Below w.heap.size w w2 := bthen (show Below W.heap.size W w2 from hW'.out ▸ hb2) bW'.out; have b34 : Below w2.heap.size w2 w4 := T4.below Q.below Q.below.size (two_far Q.g0.1 Q.g0.2.2); have b4 := bthen b34 b2; have k0 := O0.out.below (bthen b34 (show Below W.heap.size W w2 from hW'.out ▸ hb2)); have k04 := k0.five.2.2.2.2; have ltk := k0.lt)
    | (go_at_call 32; (with_reducible refine (hAdd _).mono ?_); rintro e w5 ⟨rfl, hb5⟩))
  obtain ⟨W6, hW6⟩ : ∃ W6, W6 = w5.alloc (.cells #[.bool G.s, .bool G.z, .bool G.a, .bool G.p, .bool G.c] 25) := ⟨_, rfl⟩
  have o6 : Own W6 w5.heap.size #[.bool G.s, .bool G.z, .bool G.a, .bool G.p, .bool G.c] 25 := by rw [hW6]; exact own_new _ _ _
  have b56 : Below w4.heap.size w4 W6 := by rw [hW6]; exact balloc hb5 _
  rw [← hW6]
  clear hW6
  have S6 : Sits W6 g db _ _ _ _ (stE 2 a b f) := S4.below b56
  have M6 := mach_cells S6.m
  have hG := hG'.out
  have kk : ∀ X, Below W6.heap.size W6 X → (X.cell? ⟨g, 8, none⟩ = some (.bool G.s) ∧ X.cell? ⟨g, 9, none⟩ = some (.bool G.z) ∧ X.cell? ⟨g, 10, none⟩ = some (.bool G.a) ∧ X.cell? ⟨g, 11, none⟩ = some (.bool G.p) ∧ X.cell? ⟨g, 12, none⟩ = some (.bool G.c) ∧ X.cell? ⟨w5.heap.size, 0, none⟩ = some (.bool G.s) ∧ X.cell? ⟨w5.heap.size, 1, none⟩ = some (.bool G.z) ∧ X.cell? ⟨w5.heap.size, 2, none⟩ = some (.bool G.a) ∧ X.cell? ⟨w5.heap.size, 3, none⟩ = some (.bool G.p) ∧ X.cell? ⟨w5.heap.size, 4, none⟩ = some (.bool G.c)) := fun X h => ⟨cell_below (by have q := M6.fs; rw [hG] at q; exact q) h, cell_below (by have q := M6.fz; rw [hG] at q; exact q) h, cell_below (by have q := M6.fa; rw [hG] at q; exact q) h, cell_below (by have q := M6.fp; rw [hG] at q; exact q) h, cell_below (by have q := M6.fc; rw [hG] at q; exact q) h, cell_below (o6.cell 0) h, cell_below (o6.cell 1) h, cell_below (o6.cell 2) h, cell_below (o6.cell 3) h, cell_below (o6.cell 4) h⟩
  have hL : ∀ X, Below W6.heap.size W6 X → Calls Try.prog 20 #[at0 g, .int .i64 0] X fun e w' => e = .returned (.int .u8 V) ∧ w' = X := fun X h => by
    have := Low_any g _ S6.ok.r _ _ _ _ 0 (by decide) (by decide) X (S6.m.below h)
    rw [show (0 : Int).toNat = 0 from rfl, hV'.out] at this
    exact this
  have b06 : Below w.heap.size w W6 := bthen b56 b4
  have B6 : Below W6.heap.size W6 W6.drew := bdrew (Below.refl _ _)
  clear hG M6 S6 S4 M4 T4 Q hS hAdd R k0 k04 b34 b2 b4
  go_region_held3 (fun X => (X.cell? ⟨g, 8, none⟩ = some (.bool G.s) ∧ X.cell? ⟨g, 9, none⟩ = some (.bool G.z) ∧ X.cell? ⟨g, 10, none⟩ = some (.bool G.a) ∧ X.cell? ⟨g, 11, none⟩ = some (.bool G.p) ∧ X.cell? ⟨g, 12, none⟩ = some (.bool G.c) ∧ X.cell? ⟨w5.heap.size, 0, none⟩ = some (.bool G.s) ∧ X.cell? ⟨w5.heap.size, 1, none⟩ = some (.bool G.z) ∧ X.cell? ⟨w5.heap.size, 2, none⟩ = some (.bool G.a) ∧ X.cell? ⟨w5.heap.size, 3, none⟩ = some (.bool G.p) ∧ X.cell? ⟨w5.heap.size, 4, none⟩ = some (.bool G.c)) ∧ Below W6.heap.size W6 X)
    ((refine (fun hT => ⟨kk _ hT, hT⟩) ?_; (repeat (first | with_reducible exact Below.refl _ _ | with_reducible assumption | with_reducible apply balloc | with_reducible apply bdrew | with_reducible apply bdrewN))))
    (first
      | (go_simp; go_at_call 20; (with_reducible refine (hL _ ?_).mono ?_); (focus (repeat (first | with_reducible exact Below.refl _ _ | with_reducible assumption | with_reducible apply balloc | with_reducible apply bdrew | with_reducible apply bdrewN))); rintro e wn ⟨rfl, rfl⟩)
      | (go_simp; go_at_call 34; (with_reducible refine (back_any _ _ _ _ _ _).mono ?_); rintro e wn ⟨rfl, hbn⟩; have hBn : Below W6.heap.size W6 wn := bthen hbn (by assumption))
      | (go_simp; go_at_call 15; (with_reducible refine (alive11 _).mono ?_); rintro e wm ⟨rfl, hbm⟩; have hBm : Below W6.heap.size W6 wm := bthen hbm (by assumption)))
  go_wp2
  go_ret
  exact ⟨rfl, bthen hBm b06⟩

set_option maxRecDepth 100000 in
set_option maxHeartbeats 2000000 in
theorem eight_3 (a b : Int) (f : Fl) (a0 : 0 ≤ a) (a1 : a ≤ 255) (b0 : 0 ≤ b) (b1 : b ≤ 255) (w : World) :
    Calls Try.prog 10 #[.int .u8 a, .int .u8 b, .int .i64 3, .agg #[.bool f.s, .bool f.z, .bool f.a, .bool f.p, .bool f.c]] w fun e w' => e = .returned (.bool true) ∧ Below w.heap.size w w' := by
  have wa : IntKind.u16.wrap a = a := by simp [IntKind.wrap, IntKind.bits, IntKind.signed]; omega
  have wb : IntKind.u16.wrap b = b := by simp [IntKind.wrap, IntKind.bits, IntKind.signed]; omega
  have hok := rE_ok a b f a0 (by omega) b0 (by omega)
  obtain ⟨W, hW⟩ : ∃ W, W = (w.alloc (.cells #[.bool f.s, .bool f.z, .bool f.a, .bool f.p, .bool f.c] 25)).alloc (.cells #[.int .u8 24, .int .u8 200] 5) := ⟨_, rfl⟩
  have o1 : Own W (w.heap.size + 1) #[.int .u8 24, .int .u8 200] 5 := by
    rw [hW]
    have := own_new (w.alloc (.cells #[.bool f.s, .bool f.z, .bool f.a, .bool f.p, .bool f.c] 25)) #[.int .u8 24, .int .u8 200] 5
    simpa using this
  have o0 : Own W w.heap.size #[.bool f.s, .bool f.z, .bool f.a, .bool f.p, .bool f.c] 25 := by rw [hW]; exact (own_new _ _ _).alloc _
  have bW : Below w.heap.size w W := by rw [hW]; exact balloc (balloc (Below.refl _ _) _) _
  have hw : Calls Try.prog 18 #[.agg #[.int .u16 a, .int .u16 b, .int .u16 0, .int .u16 0, .int .u16 0, .int .u16 0, .int .u16 0, .int .u16 0, .bool f.s, .bool f.z, .bool f.a, .bool f.p, .bool f.c, .int .u16 0, .bool false, .slice none 0 0, .slice none 0 0, .slice none 0 0], .slice (some ⟨w.heap.size + 1, 0, none⟩) 2 2] W _ :=
    with_nil (rE a b f) hok rfl (.slice (some ⟨w.heap.size + 1, 0, none⟩) 2 2) [8 * 3, 200] (by intro x hx; simp at hx; omega) (by decide) W (liesB_own (bs := [8 * 3, 200]) (fun j hj => by
      have : j = 0 ∨ j = 1 := by simp at hj; omega
      rcases this with rfl | rfl
      · exact o1.cell 0
      · exact o1.cell 1))
  rw [hW] at hw
  have O0 := Lib.hid o0
  have bW' := Lib.hid bW
  have R := read_e 3 (by simp) a b f
  obtain ⟨V, G, hV, hG, hSub⟩ := eight_refs 3 a b f f.c (by simp) a0 a1 b0 b1
  obtain ⟨V0, G0, hAdd⟩ := eight_any a b f.c a0 a1 b0 b1
  replace hV : lowL (stE 3 a b f).r 0 = V := by simpa using hV
  obtain ⟨bs, hbs⟩ : ∃ bs, bs = [8 * (3 : Int), 200] := ⟨_, rfl⟩
  rw [← hbs] at hw R
  have hbyt : Byt bs := by rw [hbs]; intro x hx; simp at hx; omega
  clear hbs o0 o1 bW
  have hW' := Lib.hid hW
  clear hW
  have hV' := Lib.hid hV
  have hG' := Lib.hid hG
  clear hV hG
  go_enter Try.func10, Try.ntmps10
  go_upto_region 14 with (first
    | (go_at_call 18; (with_reducible refine hw.mono ?_); rintro e w2 ⟨vc', rfl, hB2, hb2⟩)
    | (go_at_call 17; (with_reducible refine (open_any (rE a b f) _ vc' _ [] (withL (rE a b f).ip bs []) [] w2 hB2).mono ?_); rintro e w3 ⟨g, cb, db, ccap, cap, icap, p, ra, gr, capr, gc, gd, rfl, Q⟩; have hS := step_goes g db cap cb ccap _ _ _ (memL_ok (withL_byt_ok plc_nil (rE a b f).ip bs hbyt)) _ rfl w3 Q.s Q.c Q.cc _ _ _ _ _ R (by decide) (by decide) (by decide) (by decide) Q.cg Q.cd)
    | (go_at_call 19; (with_reducible refine hS.mono ?_); rintro e w4 ⟨rfl, S4, M4, T4⟩; have b2 : Below w.heap.size w w2 := bthen (show Below W.heap.size W w2 from hW'.out ▸ hb2) bW'.out; have b34 : Below w2.heap.size w2 w4 := T4.below Q.below Q.below.size (two_far Q.g0.1 Q.g0.2.2); have b4 := bthen b34 b2; have k0 := O0.out.below (bthen b34 (show Below W.heap.size W w2 from hW'.out ▸ hb2)); have k04 := k0.five.2.2.2.2; have ltk := k0.lt)
    | (go_at_call 32; (with_reducible refine (hAdd _).mono ?_); rintro e w5 ⟨rfl, hb5⟩)
    | (go_at_call 33; (with_reducible refine (hSub _).mono ?_); rintro e w6 ⟨rfl, hb6⟩; have o6 := (own_new w5 #[.bool G0.s, .bool G0.z, .bool G0.a, .bool G0.p, .bool G0.c] 25).below hb6; have m0 := o6.frozen 0; have m1 := o6.frozen 1; have m2 := o6.frozen 2; have m3 := o6.frozen 3; have m4 := o6.frozen 4; obtain ⟨n0, n1, n2, n3, n4⟩ := o6.five; have l6 := o6.lt))
  obtain ⟨W6, hW6⟩ : ∃ W6, W6 = (((((w6.setCell ⟨w5.heap.size, 0, none⟩ (.bool G.s)).setCell ⟨w5.heap.size, 1, none⟩ (.bool G.z)).setCell ⟨w5.heap.size, 2, none⟩ (.bool G.a)).setCell ⟨w5.heap.size, 3, none⟩ (.bool G.p)).setCell ⟨w5.heap.size, 4, none⟩ (.bool G.c)).setCell ⟨w5.heap.size, 2, none⟩ (.bool (!G.a)) := ⟨_, rfl⟩
  have o7 : Own W6 w5.heap.size #[.bool G.s, .bool G.z, .bool (!G.a), .bool G.p, .bool G.c] 25 := by rw [hW6]; exact own_eq ((((((o6.set 0 _).set 1 _).set 2 _).set 3 _).set 4 _).set 2 _) (by simp)
  have b46 : Below w4.heap.size w4 w6 := bthen hb6 (balloc hb5 _)
  have h45 := hb5.size
  have b56 : Below w4.heap.size w4 W6 := by rw [hW6]; exact bset h45 (bset h45 (bset h45 (bset h45 (bset h45 (bset h45 b46)))))
  clear o6 m0 m1 m2 m3 m4 n0 n1 n2 n3 n4
  rw [← hW6]
  clear hW6
  have o6 := o7
  have S6 : Sits W6 g db _ _ _ _ (stE 3 a b f) := S4.below b56
  have M6 := mach_cells S6.m
  have hG := hG'.out
  have kk : ∀ X, Below W6.heap.size W6 X → (X.cell? ⟨g, 8, none⟩ = some (.bool G.s) ∧ X.cell? ⟨g, 9, none⟩ = some (.bool G.z) ∧ X.cell? ⟨g, 10, none⟩ = some (.bool (!G.a)) ∧ X.cell? ⟨g, 11, none⟩ = some (.bool G.p) ∧ X.cell? ⟨g, 12, none⟩ = some (.bool G.c) ∧ X.cell? ⟨w5.heap.size, 0, none⟩ = some (.bool G.s) ∧ X.cell? ⟨w5.heap.size, 1, none⟩ = some (.bool G.z) ∧ X.cell? ⟨w5.heap.size, 2, none⟩ = some (.bool (!G.a)) ∧ X.cell? ⟨w5.heap.size, 3, none⟩ = some (.bool G.p) ∧ X.cell? ⟨w5.heap.size, 4, none⟩ = some (.bool G.c)) := fun X h => ⟨cell_below (by have q := M6.fs; rw [hG] at q; exact q) h, cell_below (by have q := M6.fz; rw [hG] at q; exact q) h, cell_below (by have q := M6.fa; rw [hG] at q; exact q) h, cell_below (by have q := M6.fp; rw [hG] at q; exact q) h, cell_below (by have q := M6.fc; rw [hG] at q; exact q) h, cell_below (o6.cell 0) h, cell_below (o6.cell 1) h, cell_below (o6.cell 2) h, cell_below (o6.cell 3) h, cell_below (o6.cell 4) h⟩
  have hL : ∀ X, Below W6.heap.size W6 X → Calls Try.prog 20 #[at0 g, .int .i64 0] X fun e w' => e = .returned (.int .u8 V) ∧ w' = X := fun X h => by
    have := Low_any g _ S6.ok.r _ _ _ _ 0 (by decide) (by decide) X (S6.m.below h)
    rw [show (0 : Int).toNat = 0 from rfl, hV'.out] at this
    exact this
  have b06 : Below w.heap.size w W6 := bthen b56 b4
  have B6 : Below W6.heap.size W6 W6.drew := bdrew (Below.refl _ _)
  clear hG M6 S6 S4 M4 T4 Q hS hAdd R k0 k04 b34 b2 b4
  go_region_held3 (fun X => (X.cell? ⟨g, 8, none⟩ = some (.bool G.s) ∧ X.cell? ⟨g, 9, none⟩ = some (.bool G.z) ∧ X.cell? ⟨g, 10, none⟩ = some (.bool (!G.a)) ∧ X.cell? ⟨g, 11, none⟩ = some (.bool G.p) ∧ X.cell? ⟨g, 12, none⟩ = some (.bool G.c) ∧ X.cell? ⟨w5.heap.size, 0, none⟩ = some (.bool G.s) ∧ X.cell? ⟨w5.heap.size, 1, none⟩ = some (.bool G.z) ∧ X.cell? ⟨w5.heap.size, 2, none⟩ = some (.bool (!G.a)) ∧ X.cell? ⟨w5.heap.size, 3, none⟩ = some (.bool G.p) ∧ X.cell? ⟨w5.heap.size, 4, none⟩ = some (.bool G.c)) ∧ Below W6.heap.size W6 X)
    ((refine (fun hT => ⟨kk _ hT, hT⟩) ?_; (repeat (first | with_reducible exact Below.refl _ _ | with_reducible assumption | with_reducible apply balloc | with_reducible apply bdrew | with_reducible apply bdrewN))))
    (first
      | (go_simp; go_at_call 20; (with_reducible refine (hL _ ?_).mono ?_); (focus (repeat (first | with_reducible exact Below.refl _ _ | with_reducible assumption | with_reducible apply balloc | with_reducible apply bdrew | with_reducible apply bdrewN))); rintro e wn ⟨rfl, rfl⟩)
      | (go_simp; go_at_call 34; (with_reducible refine (back_any _ _ _ _ _ _).mono ?_); rintro e wn ⟨rfl, hbn⟩; have hBn : Below W6.heap.size W6 wn := bthen hbn (by assumption))
      | (go_simp; go_at_call 15; (with_reducible refine (alive11 _).mono ?_); rintro e wm ⟨rfl, hbm⟩; have hBm : Below W6.heap.size W6 wm := bthen hbm (by assumption)))
  go_wp2
  go_ret
  exact ⟨rfl, bthen hBm b06⟩

set_option maxRecDepth 100000 in
set_option maxHeartbeats 2000000 in
theorem eight_5 (a b : Int) (f : Fl) (a0 : 0 ≤ a) (a1 : a ≤ 255) (b0 : 0 ≤ b) (b1 : b ≤ 255) (w : World) :
    Calls Try.prog 10 #[.int .u8 a, .int .u8 b, .int .i64 5, .agg #[.bool f.s, .bool f.z, .bool f.a, .bool f.p, .bool f.c]] w fun e w' => e = .returned (.bool true) ∧ Below w.heap.size w w' := by
  have wa : IntKind.u16.wrap a = a := by simp [IntKind.wrap, IntKind.bits, IntKind.signed]; omega
  have wb : IntKind.u16.wrap b = b := by simp [IntKind.wrap, IntKind.bits, IntKind.signed]; omega
  have hok := rE_ok a b f a0 (by omega) b0 (by omega)
  obtain ⟨W, hW⟩ : ∃ W, W = (w.alloc (.cells #[.bool f.s, .bool f.z, .bool f.a, .bool f.p, .bool f.c] 25)).alloc (.cells #[.int .u8 40, .int .u8 200] 5) := ⟨_, rfl⟩
  have o1 : Own W (w.heap.size + 1) #[.int .u8 40, .int .u8 200] 5 := by
    rw [hW]
    have := own_new (w.alloc (.cells #[.bool f.s, .bool f.z, .bool f.a, .bool f.p, .bool f.c] 25)) #[.int .u8 40, .int .u8 200] 5
    simpa using this
  have o0 : Own W w.heap.size #[.bool f.s, .bool f.z, .bool f.a, .bool f.p, .bool f.c] 25 := by rw [hW]; exact (own_new _ _ _).alloc _
  have bW : Below w.heap.size w W := by rw [hW]; exact balloc (balloc (Below.refl _ _) _) _
  have hw : Calls Try.prog 18 #[.agg #[.int .u16 a, .int .u16 b, .int .u16 0, .int .u16 0, .int .u16 0, .int .u16 0, .int .u16 0, .int .u16 0, .bool f.s, .bool f.z, .bool f.a, .bool f.p, .bool f.c, .int .u16 0, .bool false, .slice none 0 0, .slice none 0 0, .slice none 0 0], .slice (some ⟨w.heap.size + 1, 0, none⟩) 2 2] W _ :=
    with_nil (rE a b f) hok rfl (.slice (some ⟨w.heap.size + 1, 0, none⟩) 2 2) [8 * 5, 200] (by intro x hx; simp at hx; omega) (by decide) W (liesB_own (bs := [8 * 5, 200]) (fun j hj => by
      have : j = 0 ∨ j = 1 := by simp at hj; omega
      rcases this with rfl | rfl
      · exact o1.cell 0
      · exact o1.cell 1))
  rw [hW] at hw
  have O0 := Lib.hid o0
  have bW' := Lib.hid bW
  have R := read_e 5 (by simp) a b f
  obtain ⟨V, G, hV, hG, hSub⟩ := eight_refs 5 a b f false (by simp) a0 a1 b0 b1
  obtain ⟨V0, G0, hAdd⟩ := eight_any a b false a0 a1 b0 b1
  replace hV : lowL (stE 5 a b f).r 0 = V := by simpa using hV
  obtain ⟨bs, hbs⟩ : ∃ bs, bs = [8 * (5 : Int), 200] := ⟨_, rfl⟩
  rw [← hbs] at hw R
  have hbyt : Byt bs := by rw [hbs]; intro x hx; simp at hx; omega
  clear hbs o0 o1 bW
  have hW' := Lib.hid hW
  clear hW
  have hV' := Lib.hid hV
  have hG' := Lib.hid hG
  clear hV hG
  go_enter Try.func10, Try.ntmps10
  go_upto_region 14 with (first
    | (go_at_call 18; (with_reducible refine hw.mono ?_); rintro e w2 ⟨vc', rfl, hB2, hb2⟩)
    | (go_at_call 17; (with_reducible refine (open_any (rE a b f) _ vc' _ [] (withL (rE a b f).ip bs []) [] w2 hB2).mono ?_); rintro e w3 ⟨g, cb, db, ccap, cap, icap, p, ra, gr, capr, gc, gd, rfl, Q⟩; have hS := step_goes g db cap cb ccap _ _ _ (memL_ok (withL_byt_ok plc_nil (rE a b f).ip bs hbyt)) _ rfl w3 Q.s Q.c Q.cc _ _ _ _ _ R (by decide) (by decide) (by decide) (by decide) Q.cg Q.cd)
    | (go_at_call 19; (with_reducible refine hS.mono ?_); rintro e w4 ⟨rfl, S4, M4, T4⟩; have b2 : Below w.heap.size w w2 := bthen (show Below W.heap.size W w2 from hW'.out ▸ hb2) bW'.out; have b34 : Below w2.heap.size w2 w4 := T4.below Q.below Q.below.size (two_far Q.g0.1 Q.g0.2.2); have b4 := bthen b34 b2; have k0 := O0.out.below (bthen b34 (show Below W.heap.size W w2 from hW'.out ▸ hb2)); have k04 := k0.five.2.2.2.2; have ltk := k0.lt)
    | (go_at_call 32; (with_reducible refine (hAdd _).mono ?_); rintro e w5 ⟨rfl, hb5⟩)
    | (go_at_call 33; (with_reducible refine (hSub _).mono ?_); rintro e w6 ⟨rfl, hb6⟩; have o6 := (own_new w5 #[.bool G0.s, .bool G0.z, .bool G0.a, .bool G0.p, .bool G0.c] 25).below hb6; have m0 := o6.frozen 0; have m1 := o6.frozen 1; have m2 := o6.frozen 2; have m3 := o6.frozen 3; have m4 := o6.frozen 4; obtain ⟨n0, n1, n2, n3, n4⟩ := o6.five; have l6 := o6.lt))
  obtain ⟨W6, hW6⟩ : ∃ W6, W6 = (((((w6.setCell ⟨w5.heap.size, 0, none⟩ (.bool G.s)).setCell ⟨w5.heap.size, 1, none⟩ (.bool G.z)).setCell ⟨w5.heap.size, 2, none⟩ (.bool G.a)).setCell ⟨w5.heap.size, 3, none⟩ (.bool G.p)).setCell ⟨w5.heap.size, 4, none⟩ (.bool G.c)).setCell ⟨w5.heap.size, 2, none⟩ (.bool (!G.a)) := ⟨_, rfl⟩
  have o7 : Own W6 w5.heap.size #[.bool G.s, .bool G.z, .bool (!G.a), .bool G.p, .bool G.c] 25 := by rw [hW6]; exact own_eq ((((((o6.set 0 _).set 1 _).set 2 _).set 3 _).set 4 _).set 2 _) (by simp)
  have b46 : Below w4.heap.size w4 w6 := bthen hb6 (balloc hb5 _)
  have h45 := hb5.size
  have b56 : Below w4.heap.size w4 W6 := by rw [hW6]; exact bset h45 (bset h45 (bset h45 (bset h45 (bset h45 (bset h45 b46)))))
  clear o6 m0 m1 m2 m3 m4 n0 n1 n2 n3 n4
  rw [← hW6]
  clear hW6
  have o6 := o7
  have S6 : Sits W6 g db _ _ _ _ (stE 5 a b f) := S4.below b56
  have M6 := mach_cells S6.m
  have hG := hG'.out
  have kk : ∀ X, Below W6.heap.size W6 X → (X.cell? ⟨g, 8, none⟩ = some (.bool G.s) ∧ X.cell? ⟨g, 9, none⟩ = some (.bool G.z) ∧ X.cell? ⟨g, 10, none⟩ = some (.bool (!G.a)) ∧ X.cell? ⟨g, 11, none⟩ = some (.bool G.p) ∧ X.cell? ⟨g, 12, none⟩ = some (.bool G.c) ∧ X.cell? ⟨w5.heap.size, 0, none⟩ = some (.bool G.s) ∧ X.cell? ⟨w5.heap.size, 1, none⟩ = some (.bool G.z) ∧ X.cell? ⟨w5.heap.size, 2, none⟩ = some (.bool (!G.a)) ∧ X.cell? ⟨w5.heap.size, 3, none⟩ = some (.bool G.p) ∧ X.cell? ⟨w5.heap.size, 4, none⟩ = some (.bool G.c)) := fun X h => ⟨cell_below (by have q := M6.fs; rw [hG] at q; exact q) h, cell_below (by have q := M6.fz; rw [hG] at q; exact q) h, cell_below (by have q := M6.fa; rw [hG] at q; exact q) h, cell_below (by have q := M6.fp; rw [hG] at q; exact q) h, cell_below (by have q := M6.fc; rw [hG] at q; exact q) h, cell_below (o6.cell 0) h, cell_below (o6.cell 1) h, cell_below (o6.cell 2) h, cell_below (o6.cell 3) h, cell_below (o6.cell 4) h⟩
  have hL : ∀ X, Below W6.heap.size W6 X → Calls Try.prog 20 #[at0 g, .int .i64 0] X fun e w' => e = .returned (.int .u8 V) ∧ w' = X := fun X h => by
    have := Low_any g _ S6.ok.r _ _ _ _ 0 (by decide) (by decide) X (S6.m.below h)
    rw [show (0 : Int).toNat = 0 from rfl, hV'.out] at this
    exact this
  have b06 : Below w.heap.size w W6 := bthen b56 b4
  have B6 : Below W6.heap.size W6 W6.drew := bdrew (Below.refl _ _)
  clear hG M6 S6 S4 M4 T4 Q hS hAdd R k0 k04 b34 b2 b4
  go_region_held3 (fun X => (X.cell? ⟨g, 8, none⟩ = some (.bool G.s) ∧ X.cell? ⟨g, 9, none⟩ = some (.bool G.z) ∧ X.cell? ⟨g, 10, none⟩ = some (.bool (!G.a)) ∧ X.cell? ⟨g, 11, none⟩ = some (.bool G.p) ∧ X.cell? ⟨g, 12, none⟩ = some (.bool G.c) ∧ X.cell? ⟨w5.heap.size, 0, none⟩ = some (.bool G.s) ∧ X.cell? ⟨w5.heap.size, 1, none⟩ = some (.bool G.z) ∧ X.cell? ⟨w5.heap.size, 2, none⟩ = some (.bool (!G.a)) ∧ X.cell? ⟨w5.heap.size, 3, none⟩ = some (.bool G.p) ∧ X.cell? ⟨w5.heap.size, 4, none⟩ = some (.bool G.c)) ∧ Below W6.heap.size W6 X)
    ((refine (fun hT => ⟨kk _ hT, hT⟩) ?_; (repeat (first | with_reducible exact Below.refl _ _ | with_reducible assumption | with_reducible apply balloc | with_reducible apply bdrew | with_reducible apply bdrewN))))
    (first
      | (go_simp; go_at_call 20; (with_reducible refine (hL _ ?_).mono ?_); (focus (repeat (first | with_reducible exact Below.refl _ _ | with_reducible assumption | with_reducible apply balloc | with_reducible apply bdrew | with_reducible apply bdrewN))); rintro e wn ⟨rfl, rfl⟩)
      | (go_simp; go_at_call 34; (with_reducible refine (back_any _ _ _ _ _ _).mono ?_); rintro e wn ⟨rfl, hbn⟩; have hBn : Below W6.heap.size W6 wn := bthen hbn (by assumption))
      | (go_simp; go_at_call 15; (with_reducible refine (alive11 _).mono ?_); rintro e wm ⟨rfl, hbm⟩; have hBm : Below W6.heap.size W6 wm := bthen hbm (by assumption)))
  go_wp2
  go_ret
  exact ⟨rfl, bthen hBm b06⟩

set_option maxRecDepth 100000 in
set_option maxHeartbeats 2000000 in
theorem eight_7 (a b : Int) (f : Fl) (a0 : 0 ≤ a) (a1 : a ≤ 255) (b0 : 0 ≤ b) (b1 : b ≤ 255) (w : World) :
    Calls Try.prog 10 #[.int .u8 a, .int .u8 b, .int .i64 7, .agg #[.bool f.s, .bool f.z, .bool f.a, .bool f.p, .bool f.c]] w fun e w' => e = .returned (.bool true) ∧ Below w.heap.size w w' := by
  have wa : IntKind.u16.wrap a = a := by simp [IntKind.wrap, IntKind.bits, IntKind.signed]; omega
  have wb : IntKind.u16.wrap b = b := by simp [IntKind.wrap, IntKind.bits, IntKind.signed]; omega
  have hok := rE_ok a b f a0 (by omega) b0 (by omega)
  obtain ⟨W, hW⟩ : ∃ W, W = (w.alloc (.cells #[.bool f.s, .bool f.z, .bool f.a, .bool f.p, .bool f.c] 25)).alloc (.cells #[.int .u8 56, .int .u8 200] 5) := ⟨_, rfl⟩
  have o1 : Own W (w.heap.size + 1) #[.int .u8 56, .int .u8 200] 5 := by
    rw [hW]
    have := own_new (w.alloc (.cells #[.bool f.s, .bool f.z, .bool f.a, .bool f.p, .bool f.c] 25)) #[.int .u8 56, .int .u8 200] 5
    simpa using this
  have o0 : Own W w.heap.size #[.bool f.s, .bool f.z, .bool f.a, .bool f.p, .bool f.c] 25 := by rw [hW]; exact (own_new _ _ _).alloc _
  have bW : Below w.heap.size w W := by rw [hW]; exact balloc (balloc (Below.refl _ _) _) _
  have hw : Calls Try.prog 18 #[.agg #[.int .u16 a, .int .u16 b, .int .u16 0, .int .u16 0, .int .u16 0, .int .u16 0, .int .u16 0, .int .u16 0, .bool f.s, .bool f.z, .bool f.a, .bool f.p, .bool f.c, .int .u16 0, .bool false, .slice none 0 0, .slice none 0 0, .slice none 0 0], .slice (some ⟨w.heap.size + 1, 0, none⟩) 2 2] W _ :=
    with_nil (rE a b f) hok rfl (.slice (some ⟨w.heap.size + 1, 0, none⟩) 2 2) [8 * 7, 200] (by intro x hx; simp at hx; omega) (by decide) W (liesB_own (bs := [8 * 7, 200]) (fun j hj => by
      have : j = 0 ∨ j = 1 := by simp at hj; omega
      rcases this with rfl | rfl
      · exact o1.cell 0
      · exact o1.cell 1))
  rw [hW] at hw
  have O0 := Lib.hid o0
  have bW' := Lib.hid bW
  have R := read_e 7 (by simp) a b f
  obtain ⟨V, G, hV, hG, hSub⟩ := eight_refs 7 a b f false (by simp) a0 a1 b0 b1
  obtain ⟨V0, G0, hAdd⟩ := eight_any a b false a0 a1 b0 b1
  replace hV : lowL (stE 7 a b f).r 0 = a := by simpa using hV
  obtain ⟨bs, hbs⟩ : ∃ bs, bs = [8 * (7 : Int), 200] := ⟨_, rfl⟩
  rw [← hbs] at hw R
  have hbyt : Byt bs := by rw [hbs]; intro x hx; simp at hx; omega
  clear hbs o0 o1 bW
  have hW' := Lib.hid hW
  clear hW
  have hV' := Lib.hid hV
  have hG' := Lib.hid hG
  clear hV hG
  go_enter Try.func10, Try.ntmps10
  go_upto_region 14 with (first
    | (go_at_call 18; (with_reducible refine hw.mono ?_); rintro e w2 ⟨vc', rfl, hB2, hb2⟩)
    | (go_at_call 17; (with_reducible refine (open_any (rE a b f) _ vc' _ [] (withL (rE a b f).ip bs []) [] w2 hB2).mono ?_); rintro e w3 ⟨g, cb, db, ccap, cap, icap, p, ra, gr, capr, gc, gd, rfl, Q⟩; have hS := step_goes g db cap cb ccap _ _ _ (memL_ok (withL_byt_ok plc_nil (rE a b f).ip bs hbyt)) _ rfl w3 Q.s Q.c Q.cc _ _ _ _ _ R (by decide) (by decide) (by decide) (by decide) Q.cg Q.cd)
    | (go_at_call 19; (with_reducible refine hS.mono ?_); rintro e w4 ⟨rfl, S4, M4, T4⟩; have b2 : Below w.heap.size w w2 := bthen (show Below W.heap.size W w2 from hW'.out ▸ hb2) bW'.out; have b34 : Below w2.heap.size w2 w4 := T4.below Q.below Q.below.size (two_far Q.g0.1 Q.g0.2.2); have b4 := bthen b34 b2; have k0 := O0.out.below (bthen b34 (show Below W.heap.size W w2 from hW'.out ▸ hb2)); have k04 := k0.five.2.2.2.2; have ltk := k0.lt)
    | (go_at_call 32; (with_reducible refine (hAdd _).mono ?_); rintro e w5 ⟨rfl, hb5⟩)
    | (go_at_call 33; (with_reducible refine (hSub _).mono ?_); rintro e w6 ⟨rfl, hb6⟩; have o6 := (own_new w5 #[.bool G0.s, .bool G0.z, .bool G0.a, .bool G0.p, .bool G0.c] 25).below hb6; have m0 := o6.frozen 0; have m1 := o6.frozen 1; have m2 := o6.frozen 2; have m3 := o6.frozen 3; have m4 := o6.frozen 4; obtain ⟨n0, n1, n2, n3, n4⟩ := o6.five; have l6 := o6.lt))
  obtain ⟨W6, hW6⟩ : ∃ W6, W6 = (((((w6.setCell ⟨w5.heap.size, 0, none⟩ (.bool G.s)).setCell ⟨w5.heap.size, 1, none⟩ (.bool G.z)).setCell ⟨w5.heap.size, 2, none⟩ (.bool G.a)).setCell ⟨w5.heap.size, 3, none⟩ (.bool G.p)).setCell ⟨w5.heap.size, 4, none⟩ (.bool G.c)).setCell ⟨w5.heap.size, 2, none⟩ (.bool (!G.a)) := ⟨_, rfl⟩
  have o7 : Own W6 w5.heap.size #[.bool G.s, .bool G.z, .bool (!G.a), .bool G.p, .bool G.c] 25 := by rw [hW6]; exact own_eq ((((((o6.set 0 _).set 1 _).set 2 _).set 3 _).set 4 _).set 2 _) (by simp)
  have b46 : Below w4.heap.size w4 w6 := bthen hb6 (balloc hb5 _)
  have h45 := hb5.size
  have b56 : Below w4.heap.size w4 W6 := by rw [hW6]; exact bset h45 (bset h45 (bset h45 (bset h45 (bset h45 (bset h45 b46)))))
  clear o6 m0 m1 m2 m3 m4 n0 n1 n2 n3 n4
  rw [← hW6]
  clear hW6
  have o6 := o7
  have S6 : Sits W6 g db _ _ _ _ (stE 7 a b f) := S4.below b56
  have M6 := mach_cells S6.m
  have hG := hG'.out
  have kk : ∀ X, Below W6.heap.size W6 X → (X.cell? ⟨g, 8, none⟩ = some (.bool G.s) ∧ X.cell? ⟨g, 9, none⟩ = some (.bool G.z) ∧ X.cell? ⟨g, 10, none⟩ = some (.bool (!G.a)) ∧ X.cell? ⟨g, 11, none⟩ = some (.bool G.p) ∧ X.cell? ⟨g, 12, none⟩ = some (.bool G.c) ∧ X.cell? ⟨w5.heap.size, 0, none⟩ = some (.bool G.s) ∧ X.cell? ⟨w5.heap.size, 1, none⟩ = some (.bool G.z) ∧ X.cell? ⟨w5.heap.size, 2, none⟩ = some (.bool (!G.a)) ∧ X.cell? ⟨w5.heap.size, 3, none⟩ = some (.bool G.p) ∧ X.cell? ⟨w5.heap.size, 4, none⟩ = some (.bool G.c)) := fun X h => ⟨cell_below (by have q := M6.fs; rw [hG] at q; exact q) h, cell_below (by have q := M6.fz; rw [hG] at q; exact q) h, cell_below (by have q := M6.fa; rw [hG] at q; exact q) h, cell_below (by have q := M6.fp; rw [hG] at q; exact q) h, cell_below (by have q := M6.fc; rw [hG] at q; exact q) h, cell_below (o6.cell 0) h, cell_below (o6.cell 1) h, cell_below (o6.cell 2) h, cell_below (o6.cell 3) h, cell_below (o6.cell 4) h⟩
  have hL : ∀ X, Below W6.heap.size W6 X → Calls Try.prog 20 #[at0 g, .int .i64 0] X fun e w' => e = .returned (.int .u8 a) ∧ w' = X := fun X h => by
    have := Low_any g _ S6.ok.r _ _ _ _ 0 (by decide) (by decide) X (S6.m.below h)
    rw [show (0 : Int).toNat = 0 from rfl, hV'.out] at this
    exact this
  have b06 : Below w.heap.size w W6 := bthen b56 b4
  have B6 : Below W6.heap.size W6 W6.drew := bdrew (Below.refl _ _)
  clear hG M6 S6 S4 M4 T4 Q hS hAdd R k0 k04 b34 b2 b4
  go_region_held3 (fun X => (X.cell? ⟨g, 8, none⟩ = some (.bool G.s) ∧ X.cell? ⟨g, 9, none⟩ = some (.bool G.z) ∧ X.cell? ⟨g, 10, none⟩ = some (.bool (!G.a)) ∧ X.cell? ⟨g, 11, none⟩ = some (.bool G.p) ∧ X.cell? ⟨g, 12, none⟩ = some (.bool G.c) ∧ X.cell? ⟨w5.heap.size, 0, none⟩ = some (.bool G.s) ∧ X.cell? ⟨w5.heap.size, 1, none⟩ = some (.bool G.z) ∧ X.cell? ⟨w5.heap.size, 2, none⟩ = some (.bool (!G.a)) ∧ X.cell? ⟨w5.heap.size, 3, none⟩ = some (.bool G.p) ∧ X.cell? ⟨w5.heap.size, 4, none⟩ = some (.bool G.c)) ∧ Below W6.heap.size W6 X)
    ((refine (fun hT => ⟨kk _ hT, hT⟩) ?_; (repeat (first | with_reducible exact Below.refl _ _ | with_reducible assumption | with_reducible apply balloc | with_reducible apply bdrew | with_reducible apply bdrewN))))
    (first
      | (go_simp; go_at_call 20; (with_reducible refine (hL _ ?_).mono ?_); (focus (repeat (first | with_reducible exact Below.refl _ _ | with_reducible assumption | with_reducible apply balloc | with_reducible apply bdrew | with_reducible apply bdrewN))); rintro e wn ⟨rfl, rfl⟩)
      | (go_simp; go_at_call 34; (with_reducible refine (back_any _ _ _ _ _ _).mono ?_); rintro e wn ⟨rfl, hbn⟩; have hBn : Below W6.heap.size W6 wn := bthen hbn (by assumption))
      | (go_simp; go_at_call 15; (with_reducible refine (alive11 _).mono ?_); rintro e wm ⟨rfl, hbm⟩; have hBm : Below W6.heap.size W6 wm := bthen hbm (by assumption)))
  go_wp2
  go_ret
  exact ⟨rfl, bthen hBm b06⟩

/-- A k that the law lets by. -/
theorem eight_not (a b k : Int) (f : Fl) (h : k < 0 ∨ 7 < k ∨ k = 1 ∨ k = 4 ∨ k = 6) (w : World) :
    Calls Try.prog 10 #[.int .u8 a, .int .u8 b, .int .i64 k, .agg #[.bool f.s, .bool f.z, .bool f.a, .bool f.p, .bool f.c]] w fun e w' => e = .returned (.bool true) ∧ Below w.heap.size w w' := by
  rcases h with h | h | rfl | rfl | rfl
  all_goals
    go_enter Try.func10, Try.ntmps10
    go_wp2_with (go_at_call 15; (with_reducible refine (alive11 _).mono ?_); rintro e wm ⟨rfl, hbm⟩)
    go_ret
    exact ⟨rfl, bthen hbm (balloc (Below.refl _ _) _)⟩
theorem cpu86AsEight_any (a b k : Int) (s z x p c : Bool) (a0 : 0 ≤ a) (a1 : a ≤ 255) (b0 : 0 ≤ b) (b1 : b ≤ 255) (w : World) :
    Calls Try.prog 10 #[.int .u8 a, .int .u8 b, .int .i64 k, .agg #[.bool s, .bool z, .bool x, .bool p, .bool c]] w fun e w' => e = .returned (.bool true) ∧ Below w.heap.size w w' := by
  have h : (k < 0 ∨ 7 < k ∨ k = 1 ∨ k = 4 ∨ k = 6) ∨ k = 0 ∨ k = 2 ∨ k = 3 ∨ k = 5 ∨ k = 7 := by omega
  rcases h with h | rfl | rfl | rfl | rfl | rfl
  · exact eight_not a b k ⟨s, z, x, p, c⟩ h w
  · exact eight_0 a b ⟨s, z, x, p, c⟩ a0 a1 b0 b1 w
  · exact eight_2 a b ⟨s, z, x, p, c⟩ a0 a1 b0 b1 w
  · exact eight_3 a b ⟨s, z, x, p, c⟩ a0 a1 b0 b1 w
  · exact eight_5 a b ⟨s, z, x, p, c⟩ a0 a1 b0 b1 w
  · exact eight_7 a b ⟨s, z, x, p, c⟩ a0 a1 b0 b1 w

end Go.Proofs.Ytbhkndblolegaaa
