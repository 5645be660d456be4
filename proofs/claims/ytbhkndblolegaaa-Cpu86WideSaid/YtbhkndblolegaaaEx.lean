/- The walk of the law Cpu86Wide: whatever comes in, the law returns true, and nothing that was there has changed. -/
import Derived.Test.YtbhkndblolegaaaEw
import Derived.Test.YtbhkndblolegaaaEf
import Derived.Deep.RegionHeld3
import Derived.Deep.AppendLies
import Derived.StillTailTactics
namespace Go.Proofs.Ytbhkndblolegaaa
open Go.RowKit
set_option linter.unusedVariables false
set_option linter.unusedSimpArgs false

theorem Sits.far {S : Nat → Prop} {w w1 : World} {g db cap : Nat} {vi vo vc : Value} {s : St} (h : Sits w g db cap vi vo vc s) (T : Turn S w w1) (hg : ¬ S g) (hd : ¬ S db) : Sits w1 g db cap vi vo vc s := ⟨h.m.turn T hg, h.d.turn T hd, h.ne, h.cap, h.ok⟩
theorem liesB_owns {w : World} {base g cap a b c d : Nat} {bs : List Int} (h : w.ownsRow base 5 1 (.slice (some ⟨g, 0, none⟩) (0 + 2 + 2) cap) (0 + 2 + 2) ([] ++ [.int .u8 (a : Int), .int .u8 (b : Int)] ++ [.int .u8 (c : Int), .int .u8 (d : Int)])) (e : bs = [(a : Int), (b : Int), (c : Int), (d : Int)]) : LiesB w (.slice (some ⟨g, 0, none⟩) 4 cap) bs := by
  subst e
  refine liesB_own (bs := [(a : Int), (b : Int), (c : Int), (d : Int)]) (fun j hj => ?_)
  have hj' : j < 4 := hj
  rw [World.ownsRow.cellAt h j (by omega)]
  have : j = 0 ∨ j = 1 ∨ j = 2 ∨ j = 3 := by omega
  rcases this with rfl | rfl | rfl | rfl <;> rfl

set_option maxRecDepth 100000 in
set_option maxHeartbeats 4000000 in
theorem wide_false (m n : Int) (f : Fl) (m0 : 0 ≤ m) (m1 : m ≤ 65535) (n0 : 0 ≤ n) (n1 : n ≤ 65535) (w : World) :
    Calls Try.prog 4 #[.int .u16 m, .int .u16 n, .bool false, .agg #[.bool f.s, .bool f.z, .bool f.a, .bool f.p, .bool f.c]] w fun e w' => e = .returned (.bool true) ∧ Below w.heap.size w w' := by
  have hok := rE_ok m n f m0 m1 n0 n1
  obtain ⟨L1, L2, L3, L4⟩ := wide_law 0 m n f 2 (by simp) m0 m1 n0 n1
  obtain ⟨_, _, _, bip, bhalt⟩ := wideB_is 0 m n f (by simp) m0 m1 n0 n1
  have RA := read_wA 0 (by simp) m n f
  have RB := read_wB 0 2 (by simp) m n f
  have RC := read_wC 0 2 (by simp) m n f
  obtain ⟨W, hW⟩ : ∃ W, W = (((w.alloc (.cells #[.bool f.s, .bool f.z, .bool f.a, .bool f.p, .bool f.c] 25)).alloc (.cells #[.int .u8 1, .int .u8 200] 5)).alloc (.cells #[.int .u8 0, .int .u8 200] 5)).alloc (.cells #[.int .u8 16, .int .u8 236] 5) := ⟨_, rfl⟩
  have o0 : Own W w.heap.size #[.bool f.s, .bool f.z, .bool f.a, .bool f.p, .bool f.c] 25 := by rw [hW]; exact ((((own_new _ _ _).alloc _).alloc _).alloc _)
  have oA : Own W (w.heap.size + 1) #[.int .u8 1, .int .u8 200] 5 := by rw [hW]; have q := (Own.alloc (Own.alloc (own_new (w.alloc (.cells #[.bool f.s, .bool f.z, .bool f.a, .bool f.p, .bool f.c] 25)) #[.int .u8 1, .int .u8 200] 5) (.cells #[.int .u8 0, .int .u8 200] 5)) (.cells #[.int .u8 16, .int .u8 236] 5)); simpa using q
  have oL : Own W (w.heap.size + 2) #[.int .u8 0, .int .u8 200] 5 := by rw [hW]; have q := (Own.alloc (own_new ((w.alloc (.cells #[.bool f.s, .bool f.z, .bool f.a, .bool f.p, .bool f.c] 25)).alloc (.cells #[.int .u8 1, .int .u8 200] 5)) #[.int .u8 0, .int .u8 200] 5) (.cells #[.int .u8 16, .int .u8 236] 5)); simpa using q
  have oH : Own W (w.heap.size + 3) #[.int .u8 16, .int .u8 236] 5 := by rw [hW]; have q := (own_new (((w.alloc (.cells #[.bool f.s, .bool f.z, .bool f.a, .bool f.p, .bool f.c] 25)).alloc (.cells #[.int .u8 1, .int .u8 200] 5)).alloc (.cells #[.int .u8 0, .int .u8 200] 5)) #[.int .u8 16, .int .u8 236] 5); simpa using q
  have bW : Below w.heap.size w W := by rw [hW]; exact balloc (balloc (balloc (balloc (Below.refl _ _) _) _) _) _
  obtain ⟨bsA, hbsA⟩ : ∃ bs, bs = [8 * (0 : Int) + 1, 200] := ⟨_, rfl⟩
  obtain ⟨bsB, hbsB⟩ : ∃ bs, bs = [8 * (0 : Int), 200, 8 * (2 : Int), 236] := ⟨_, rfl⟩
  rw [← hbsA] at RA
  rw [← hbsB] at RB RC
  have bytA : Byt bsA := by rw [hbsA]; intro x hx; simp at hx; omega
  have bytB : Byt bsB := by rw [hbsB]; intro x hx; simp at hx; omega
  have lenA : bsA.length = 2 := by rw [hbsA]; rfl
  have lenB : bsB.length = 4 := by rw [hbsB]; rfl
  have hwA : Calls Try.prog 18 #[.agg #[.int .u16 m, .int .u16 n, .int .u16 0, .int .u16 0, .int .u16 0, .int .u16 0, .int .u16 0, .int .u16 0, .bool f.s, .bool f.z, .bool f.a, .bool f.p, .bool f.c, .int .u16 0, .bool false, .slice none 0 0, .slice none 0 0, .slice none 0 0], .slice (some ⟨w.heap.size + 1, 0, none⟩) 2 2] W _ :=
    with_nil (rE m n f) hok rfl (.slice (some ⟨w.heap.size + 1, 0, none⟩) 2 2) bsA bytA (by rw [lenA]; decide) W (by
      rw [hbsA]
      exact liesB_own (bs := [8 * (0 : Int) + 1, 200]) (fun j hj => by
        have : j = 0 ∨ j = 1 := by simp at hj; omega
        rcases this with rfl | rfl
        · exact oA.cell 0
        · exact oA.cell 1))
  have hwB : ∀ X g cap, LiesB X (.slice (some ⟨g, 0, none⟩) 4 cap) bsB → Calls Try.prog 18 #[.agg #[.int .u16 m, .int .u16 n, .int .u16 0, .int .u16 0, .int .u16 0, .int .u16 0, .int .u16 0, .int .u16 0, .bool f.s, .bool f.z, .bool f.a, .bool f.p, .bool f.c, .int .u16 0, .bool false, .slice none 0 0, .slice none 0 0, .slice none 0 0], .slice (some ⟨g, 0, none⟩) 4 cap] X _ :=
    fun X g cap h => with_nil (rE m n f) hok rfl (.slice (some ⟨g, 0, none⟩) 4 cap) bsB bytB (by rw [lenB]; decide) X h
  obtain ⟨iu, hiu, hu0, hu1, hu2⟩ := info_parts infoU8
  have hbsB' := Lib.hid hbsB
  have OL := Lib.hid oL
  have OH := Lib.hid oH
  have bW' := Lib.hid bW
  obtain ⟨i0, i1, i2, i3, i4⟩ := o0.five
  have kk : ∀ X, Below W.heap.size W X → (X.cell? ⟨w.heap.size, 0, none⟩ = some (.bool f.s) ∧ X.cell? ⟨w.heap.size, 1, none⟩ = some (.bool f.z) ∧ X.cell? ⟨w.heap.size, 2, none⟩ = some (.bool f.a) ∧ X.cell? ⟨w.heap.size, 3, none⟩ = some (.bool f.p) ∧ X.cell? ⟨w.heap.size, 4, none⟩ = some (.bool f.c)) := fun X h => ⟨cell_below i0 h, cell_below i1 h, cell_below i2 h, cell_below i3 h, cell_below i4 h⟩
  have ltW := o0.lt
  have ltL := oL.lt
  have ltH := oH.lt
  clear oA oL oH bW hbsB hbsA
  go_enter Try.func4, Try.ntmps4
  go_upto_region 4 with (fail)
  rw [← hW]
  clear hW
  go_upto_region 5 with (first
    | (go_at_call 18; (with_reducible refine hwA.mono ?_); rintro e w2 ⟨vc', rfl, hB2, hb2⟩)
    | (go_at_call 17; (with_reducible refine (open_any (rE m n f) _ vc' _ [] (withL (rE m n f).ip bsA []) [] w2 hB2).mono ?_); rintro e w3 ⟨g, cb, db, ccap, cap, icap, p, ra, gr, capr, gc, gd, rfl, Q⟩))
  have b3 : Below W.heap.size W w3 := bthen Q.below hb2
  have B3 : Below w3.heap.size w3 w3.drew := bdrew (Below.refl _ _)
  have hw3 : w.heap.size < w3.heap.size := Nat.lt_of_lt_of_le ltW b3.size
  have kk3 : ∀ X, Below w3.heap.size w3 X → (X.cell? ⟨w.heap.size, 0, none⟩ = some (.bool f.s) ∧ X.cell? ⟨w.heap.size, 1, none⟩ = some (.bool f.z) ∧ X.cell? ⟨w.heap.size, 2, none⟩ = some (.bool f.a) ∧ X.cell? ⟨w.heap.size, 3, none⟩ = some (.bool f.p) ∧ X.cell? ⟨w.heap.size, 4, none⟩ = some (.bool f.c)) := fun X h => kk X (bthen h b3)
  have nL : ∀ X, Below w3.heap.size w3 X → ∀ j u, ([Value.int .u8 0, Value.int .u8 200] : List Value)[j]? = some u → X.cell? ((⟨w.heap.size + 2, 0, none⟩ : Addr).add j) = some u := fun X h => World.news_of_block (OL.out.below (bthen h b3))
  have nH : ∀ X, Below w3.heap.size w3 X → ∀ j u, ([Value.int .u8 16, Value.int .u8 236] : List Value)[j]? = some u → X.cell? ((⟨w.heap.size + 3, 0, none⟩ : Addr).add j) = some u := fun X h => World.news_of_block (OH.out.below (bthen h b3))
  go_region_held3 (fun X => (X.cell? ⟨w.heap.size, 0, none⟩ = some (.bool f.s) ∧ X.cell? ⟨w.heap.size, 1, none⟩ = some (.bool f.z) ∧ X.cell? ⟨w.heap.size, 2, none⟩ = some (.bool f.a) ∧ X.cell? ⟨w.heap.size, 3, none⟩ = some (.bool f.p) ∧ X.cell? ⟨w.heap.size, 4, none⟩ = some (.bool f.c)) ∧ Below w3.heap.size w3 X)
    ((refine (fun hT => ⟨kk3 _ hT, hT⟩) ?_; (repeat (first | with_reducible exact Below.refl _ _ | with_reducible assumption | with_reducible apply balloc | with_reducible apply bdrew | with_reducible apply bdrewN))))
    (first
      | (refine step_append_lies _ rfl (.tmp 46) (.tmp 47) 26 rfl w3.heap.size 5 iu (.int .u8 0) 1 1 Try.underlying26 hiu hu0 hu1 hu2 rfl (by decide) _ 0 [] (by simp [Act.eval, Act.put]) (World.ownsRow_made w3.drew #[] 0 (Nat.le_refl _) (Nat.zero_le _) rfl) ⟨w.heap.size + 2, 0, none⟩ 2 2 [.int .u8 0, .int .u8 200] (by simp [Act.eval, Act.put]) rfl (nL _ (balloc B3 _)) (by intro u hu; simp at hu; rcases hu with rfl | rfl <;> rfl) (by decide) (by decide) (by decide) (by simp) _ rfl ?_; intro g5 cap5 w5 hown5 hgrow5 hat5 hlt5; have B5 : Below w3.heap.size w3 w5 := (balloc B3 _).grown hgrow5 (by simp) (by intro q hq; simp [Value.ownBlock] at hq; omega))
      | (refine step_append_lies _ rfl (.tmp 48) (.tmp 49) 26 rfl w3.heap.size 5 iu (.int .u8 0) 1 1 Try.underlying26 hiu hu0 hu1 hu2 rfl (by decide) _ 2 _ (by simp [Act.eval, Act.put]) hown5 ⟨w.heap.size + 3, 0, none⟩ 2 2 [.int .u8 16, .int .u8 236] (by simp [Act.eval, Act.put]) rfl (nH _ B5) (by intro u hu; simp at hu; rcases hu with rfl | rfl <;> rfl) (by decide) (by decide) (by decide) B5.size _ rfl ?_; intro g6 cap6 w6 hown6 hgrow6 hat6 hlt6; have B6 : Below w3.heap.size w3 w6 := B5.grown hgrow6 B5.size (by intro q hq; exact (hown5.lt q hq).1))
      | (go_simp; go_at_call 18; (with_reducible refine (hwB _ g6 cap6 (liesB_owns hown6 hbsB'.out)).mono ?_); rintro e w7 ⟨vc7, rfl, hB7, hb7⟩; have B7 : Below w3.heap.size w3 w7 := bthen hb7 (by assumption))
      | (go_simp; go_at_call 17; (with_reducible refine (open_any (rE m n f) _ vc7 _ [] (withL (rE m n f).ip bsB []) [] w7 hB7).mono ?_); rintro e w8 ⟨g', cb', db', ccap', cap', icap', p', ra', gr', capr', gc', gd', rfl, Q'⟩; have B8 : Below w3.heap.size w3 w8 := bthen Q'.below (by assumption)))
  have S8 := Q.s.below B8
  have C8 := Q.c.below B8
  have q3 := Q.s.m.lt
  have q3d := Q.s.d.lt
  have q0 := Q'.g0
  have z7 := B7.size
  have b8w : Below w.heap.size w w8 := bthen B8 (bthen b3 bW'.out)
  have hS := step_goes g db cap cb ccap _ _ _ (memL_ok (withL_byt_ok plc_nil (rE m n f).ip bsA bytA)) _ rfl w8 S8 C8 Q.cc _ _ _ _ _ RA (by decide) (by decide) (by decide) (by decide) Q.cg Q.cd
  have hR : ∀ w9, Turn (two g db) w8 w9 → Calls Try.prog 16 #[at0 g', .int .i64 2] w9 fun e w' => e = .returned (.tuple #[.int .i64 2, .int .i64 0]) ∧ Sits w' g' db' cap' (.slice p' ([] : List Int).length icap') (.slice none 0 0) (.slice (some ⟨cb', 0, none⟩) 65536 ccap') (wideC (0 + 2) (2 + 2) m n f) ∧ Turn (two g' db') w9 w' := by
    intro w9 T9
    have hg' : ¬ two g db g' := fun q => by rcases q with q | q <;> omega
    have hd' : ¬ two g db db' := fun q => by rcases q with q | q <;> omega
    have hc' : ¬ two g db cb' := fun q => by rcases q with q | q <;> omega
    have S9 := Sits.far Q'.s T9 hg' hd'
    have C9 := Q'.c.turn T9 hc'
    have hCo := memL_ok (withL_byt_ok plc_nil (rE m n f).ip bsB bytB)
    refine (run_inv g' 2 (by decide) 2 (.inl (by decide)) 1 (by decide) (fun k X => Sits X g' db' cap' (.slice p' ([] : List Int).length icap') (.slice none 0 0) (.slice (some ⟨cb', 0, none⟩) 65536 ccap') (if k = 0 then ⟨rE m n f, memL []⟩ else if k = 1 then wideB (0 + 2) m n f else wideC (0 + 2) (2 + 2) m n f) ∧ Mem X cb' (memL (withL (rE m n f).ip bsB [])) ∧ Turn (two g' db') w9 X) ?_ ?_ w9 ⟨S9, C9, .refl _ _⟩).mono ?_
    · intro k X hk hI
      obtain ⟨I1, I2, I3⟩ := hI
      have : k = 0 ∨ k = 1 := by omega
      rcases this with rfl | rfl
      · refine (step_goes g' db' cap' cb' ccap' _ _ _ hCo _ rfl X I1 I2 Q'.cc _ _ _ _ _ RB (by decide) (by decide) (by decide) (by decide) Q'.cg Q'.cd).mono ?_
        rintro e w' ⟨rfl, J1, J2, J3⟩
        exact ⟨rfl, J1, J2, I3.trans J3⟩
      · refine (step_goes g' db' cap' cb' ccap' _ _ _ hCo (wideB (0 + 2) m n f) bhalt X I1 I2 Q'.cc _ _ _ _ _ (by rw [bip]; exact RC) (by decide) (by decide) (by decide) (by decide) Q'.cg Q'.cd).mono ?_
        rintro e w' ⟨rfl, J1, J2, J3⟩
        exact ⟨rfl, J1, J2, I3.trans J3⟩
    · intro h
      exact absurd h (by decide)
    · rintro e w' ⟨rfl, J1, J2, J3⟩
      exact ⟨rfl, J1, J3⟩
  clear RA RB RC
  go_wp2_with (first
    | (go_at_call 19; (with_reducible refine hS.mono ?_); rintro e w9 ⟨rfl, S9, M9, T9⟩)
    | (go_at_call 16; (with_reducible refine (hR w9 T9).mono ?_); rintro e w10 ⟨rfl, S10, T10⟩))
  have q00 := Q.g0
  have zW2 := hb2.size
  have zW := bW'.out.size
  have z37 := B7.size
  have SA : Sits w9 g db cap (.slice p ([] : List Int).length icap) (.slice none 0 0) (.slice (some ⟨cb, 0, none⟩) 65536 ccap) (wideA (0 + 2) m n f) := S9
  have SA10 := Sits.far SA T10 (fun q => by rcases q with q | q <;> omega) (fun q => by rcases q with q | q <;> omega)
  have MA := mach_cells SA10.m
  have MB := mach_cells S10.m
  have b9w : Below w.heap.size w w9 := T9.below b8w b8w.size (two_far (by omega) (by omega))
  have b10w : Below w.heap.size w w10 := T10.below b9w b9w.size (two_far (by omega) (by omega))
  obtain ⟨x, hx⟩ : ∃ x, x = (wideC (0 + 2) (2 + 2) m n f).r.R 0 := ⟨_, rfl⟩
  obtain ⟨y, hy⟩ : ∃ y, y = (wideC (0 + 2) (2 + 2) m n f).r.F.c := ⟨_, rfl⟩
  obtain ⟨z, hz⟩ : ∃ z, z = (wideC (0 + 2) (2 + 2) m n f).r.F.s := ⟨_, rfl⟩
  have A0 : w10.cell? ⟨g, 0, none⟩ = some (.int .u16 x) := by have q := MA.r0; rw [L1, ← hx] at q; exact q
  have Ac : w10.cell? ⟨g, 12, none⟩ = some (.bool y) := by have q := MA.fc; rw [L2, ← hy] at q; exact q
  have As : w10.cell? ⟨g, 8, none⟩ = some (.bool z) := by have q := MA.fs; rw [L3, ← hz] at q; exact q
  have Az : w10.cell? ⟨g, 9, none⟩ = some (.bool (x == 0)) := by have q := MA.fz; rw [L4, L1, ← hx] at q; exact q
  have C0 : w10.cell? ⟨g', 0, none⟩ = some (.int .u16 x) := by have q := MB.r0; rw [← hx] at q; exact q
  have Cc : w10.cell? ⟨g', 12, none⟩ = some (.bool y) := by have q := MB.fc; rw [← hy] at q; exact q
  have Cs : w10.cell? ⟨g', 8, none⟩ = some (.bool z) := by have q := MB.fs; rw [← hz] at q; exact q
  have B10 : Below w10.heap.size w10 w10.drew := bdrew (Below.refl _ _)
  clear hx hy hz L1 L2 L3 L4 MA MB SA SA10 S9 S10 Q Q' hS hR T9 T10 M9 kk kk3 nL nH
  simp only [List.append]
  go_still_tail 72, (by kernel_rfl)
  go_wp2_with (go_at_call 15; (with_reducible refine (alive11 _).mono ?_); rintro e wm ⟨rfl, hbm⟩)
  go_ret
  exact ⟨rfl, bthen hbm (bdrew b10w)⟩

set_option maxRecDepth 100000 in
set_option maxHeartbeats 4000000 in
theorem wide_true (m n : Int) (f : Fl) (m0 : 0 ≤ m) (m1 : m ≤ 65535) (n0 : 0 ≤ n) (n1 : n ≤ 65535) (w : World) :
    Calls Try.prog 4 #[.int .u16 m, .int .u16 n, .bool true, .agg #[.bool f.s, .bool f.z, .bool f.a, .bool f.p, .bool f.c]] w fun e w' => e = .returned (.bool true) ∧ Below w.heap.size w w' := by
  have hok := rE_ok m n f m0 m1 n0 n1
  obtain ⟨L1, L2, L3, L4⟩ := wide_law 5 m n f 3 (by simp) m0 m1 n0 n1
  obtain ⟨_, _, _, bip, bhalt⟩ := wideB_is 5 m n f (by simp) m0 m1 n0 n1
  have RA := read_wA 5 (by simp) m n f
  have RB := read_wB 5 3 (by simp) m n f
  have RC := read_wC 5 3 (by simp) m n f
  obtain ⟨W, hW⟩ : ∃ W, W = ((((((w.alloc (.cells #[.bool f.s, .bool f.z, .bool f.a, .bool f.p, .bool f.c] 25)).alloc (.cells #[.int .u8 1, .int .u8 200] 5)).alloc (.cells #[.int .u8 0, .int .u8 200] 5)).alloc (.cells #[.int .u8 16, .int .u8 236] 5)).alloc (.cells #[.int .u8 41, .int .u8 200] 5)).alloc (.cells #[.int .u8 40, .int .u8 200] 5)).alloc (.cells #[.int .u8 24, .int .u8 236] 5) := ⟨_, rfl⟩
  have o0 : Own W w.heap.size #[.bool f.s, .bool f.z, .bool f.a, .bool f.p, .bool f.c] 25 := by rw [hW]; exact (((((((own_new _ _ _).alloc _).alloc _).alloc _).alloc _).alloc _).alloc _)
  have oA : Own W (w.heap.size + 4) #[.int .u8 41, .int .u8 200] 5 := by rw [hW]; have q := (Own.alloc (Own.alloc (own_new ((((w.alloc (.cells #[.bool f.s, .bool f.z, .bool f.a, .bool f.p, .bool f.c] 25)).alloc (.cells #[.int .u8 1, .int .u8 200] 5)).alloc (.cells #[.int .u8 0, .int .u8 200] 5)).alloc (.cells #[.int .u8 16, .int .u8 236] 5)) #[.int .u8 41, .int .u8 200] 5) (.cells #[.int .u8 40, .int .u8 200] 5)) (.cells #[.int .u8 24, .int .u8 236] 5)); simpa using q
  have oL : Own W (w.heap.size + 5) #[.int .u8 40, .int .u8 200] 5 := by rw [hW]; have q := (Own.alloc (own_new (((((w.alloc (.cells #[.bool f.s, .bool f.z, .bool f.a, .bool f.p, .bool f.c] 25)).alloc (.cells #[.int .u8 1, .int .u8 200] 5)).alloc (.cells #[.int .u8 0, .int .u8 200] 5)).alloc (.cells #[.int .u8 16, .int .u8 236] 5)).alloc (.cells #[.int .u8 41, .int .u8 200] 5)) #[.int .u8 40, .int .u8 200] 5) (.cells #[.int .u8 24, .int .u8 236] 5)); simpa using q
  have oH : Own W (w.heap.size + 6) #[.int .u8 24, .int .u8 236] 5 := by rw [hW]; have q := (own_new ((((((w.alloc (.cells #[.bool f.s, .bool f.z, .bool f.a, .bool f.p, .bool f.c] 25)).alloc (.cells #[.int .u8 1, .int .u8 200] 5)).alloc (.cells #[.int .u8 0, .int .u8 200] 5)).alloc (.cells #[.int .u8 16, .int .u8 236] 5)).alloc (.cells #[.int .u8 41, .int .u8 200] 5)).alloc (.cells #[.int .u8 40, .int .u8 200] 5)) #[.int .u8 24, .int .u8 236] 5); simpa using q
  have bW : Below w.heap.size w W := by rw [hW]; exact balloc (balloc (balloc (balloc (balloc (balloc (balloc (Below.refl _ _) _) _) _) _) _) _) _
  obtain ⟨bsA, hbsA⟩ : ∃ bs, bs = [8 * (5 : Int) + 1, 200] := ⟨_, rfl⟩
  obtain ⟨bsB, hbsB⟩ : ∃ bs, bs = [8 * (5 : Int), 200, 8 * (3 : Int), 236] := ⟨_, rfl⟩
  rw [← hbsA] at RA
  rw [← hbsB] at RB RC
  have bytA : Byt bsA := by rw [hbsA]; intro x hx; simp at hx; omega
  have bytB : Byt bsB := by rw [hbsB]; intro x hx; simp at hx; omega
  have lenA : bsA.length = 2 := by rw [hbsA]; rfl
  have lenB : bsB.length = 4 := by rw [hbsB]; rfl
  have hwA : Calls Try.prog 18 #[.agg #[.int .u16 m, .int .u16 n, .int .u16 0, .int .u16 0, .int .u16 0, .int .u16 0, .int .u16 0, .int .u16 0, .bool f.s, .bool f.z, .bool f.a, .bool f.p, .bool f.c, .int .u16 0, .bool false, .slice none 0 0, .slice none 0 0, .slice none 0 0], .slice (some ⟨w.heap.size + 4, 0, none⟩) 2 2] W _ :=
    with_nil (rE m n f) hok rfl (.slice (some ⟨w.heap.size + 4, 0, none⟩) 2 2) bsA bytA (by rw [lenA]; decide) W (by
      rw [hbsA]
      exact liesB_own (bs := [8 * (5 : Int) + 1, 200]) (fun j hj => by
        have : j = 0 ∨ j = 1 := by simp at hj; omega
        rcases this with rfl | rfl
        · exact oA.cell 0
        · exact oA.cell 1))
  have hwB : ∀ X g cap, LiesB X (.slice (some ⟨g, 0, none⟩) 4 cap) bsB → Calls Try.prog 18 #[.agg #[.int .u16 m, .int .u16 n, .int .u16 0, .int .u16 0, .int .u16 0, .int .u16 0, .int .u16 0, .int .u16 0, .bool f.s, .bool f.z, .bool f.a, .bool f.p, .bool f.c, .int .u16 0, .bool false, .slice none 0 0, .slice none 0 0, .slice none 0 0], .slice (some ⟨g, 0, none⟩) 4 cap] X _ :=
    fun X g cap h => with_nil (rE m n f) hok rfl (.slice (some ⟨g, 0, none⟩) 4 cap) bsB bytB (by rw [lenB]; decide) X h
  obtain ⟨iu, hiu, hu0, hu1, hu2⟩ := info_parts infoU8
  have hbsB' := Lib.hid hbsB
  have OL := Lib.hid oL
  have OH := Lib.hid oH
  have bW' := Lib.hid bW
  obtain ⟨i0, i1, i2, i3, i4⟩ := o0.five
  have kk : ∀ X, Below W.heap.size W X → (X.cell? ⟨w.heap.size, 0, none⟩ = some (.bool f.s) ∧ X.cell? ⟨w.heap.size, 1, none⟩ = some (.bool f.z) ∧ X.cell? ⟨w.heap.size, 2, none⟩ = some (.bool f.a) ∧ X.cell? ⟨w.heap.size, 3, none⟩ = some (.bool f.p) ∧ X.cell? ⟨w.heap.size, 4, none⟩ = some (.bool f.c)) := fun X h => ⟨cell_below i0 h, cell_below i1 h, cell_below i2 h, cell_below i3 h, cell_below i4 h⟩
  have ltW := o0.lt
  have ltL := oL.lt
  have ltH := oH.lt
  clear oA oL oH bW hbsB hbsA
  go_enter Try.func4, Try.ntmps4
  go_upto_region 4 with (fail)
  rw [← hW]
  clear hW
  go_upto_region 5 with (first
    | (go_at_call 18; (with_reducible refine hwA.mono ?_); rintro e w2 ⟨vc', rfl, hB2, hb2⟩)
    | (go_at_call 17; (with_reducible refine (open_any (rE m n f) _ vc' _ [] (withL (rE m n f).ip bsA []) [] w2 hB2).mono ?_); rintro e w3 ⟨g, cb, db, ccap, cap, icap, p, ra, gr, capr, gc, gd, rfl, Q⟩))
  have b3 : Below W.heap.size W w3 := bthen Q.below hb2
  have B3 : Below w3.heap.size w3 w3.drew := bdrew (Below.refl _ _)
  have hw3 : w.heap.size < w3.heap.size := Nat.lt_of_lt_of_le ltW b3.size
  have kk3 : ∀ X, Below w3.heap.size w3 X → (X.cell? ⟨w.heap.size, 0, none⟩ = some (.bool f.s) ∧ X.cell? ⟨w.heap.size, 1, none⟩ = some (.bool f.z) ∧ X.cell? ⟨w.heap.size, 2, none⟩ = some (.bool f.a) ∧ X.cell? ⟨w.heap.size, 3, none⟩ = some (.bool f.p) ∧ X.cell? ⟨w.heap.size, 4, none⟩ = some (.bool f.c)) := fun X h => kk X (bthen h b3)
  have nL : ∀ X, Below w3.heap.size w3 X → ∀ j u, ([Value.int .u8 40, Value.int .u8 200] : List Value)[j]? = some u → X.cell? ((⟨w.heap.size + 5, 0, none⟩ : Addr).add j) = some u := fun X h => World.news_of_block (OL.out.below (bthen h b3))
  have nH : ∀ X, Below w3.heap.size w3 X → ∀ j u, ([Value.int .u8 24, Value.int .u8 236] : List Value)[j]? = some u → X.cell? ((⟨w.heap.size + 6, 0, none⟩ : Addr).add j) = some u := fun X h => World.news_of_block (OH.out.below (bthen h b3))
  go_region_held3 (fun X => (X.cell? ⟨w.heap.size, 0, none⟩ = some (.bool f.s) ∧ X.cell? ⟨w.heap.size, 1, none⟩ = some (.bool f.z) ∧ X.cell? ⟨w.heap.size, 2, none⟩ = some (.bool f.a) ∧ X.cell? ⟨w.heap.size, 3, none⟩ = some (.bool f.p) ∧ X.cell? ⟨w.heap.size, 4, none⟩ = some (.bool f.c)) ∧ Below w3.heap.size w3 X)
    ((refine (fun hT => ⟨kk3 _ hT, hT⟩) ?_; (repeat (first | with_reducible exact Below.refl _ _ | with_reducible assumption | with_reducible apply balloc | with_reducible apply bdrew | with_reducible apply bdrewN))))
    (first
      | (refine step_append_lies _ rfl (.tmp 46) (.tmp 47) 26 rfl w3.heap.size 5 iu (.int .u8 0) 1 1 Try.underlying26 hiu hu0 hu1 hu2 rfl (by decide) _ 0 [] (by simp [Act.eval, Act.put]) (World.ownsRow_made w3.drew #[] 0 (Nat.le_refl _) (Nat.zero_le _) rfl) ⟨w.heap.size + 5, 0, none⟩ 2 2 [.int .u8 40, .int .u8 200] (by simp [Act.eval, Act.put]) rfl (nL _ (balloc B3 _)) (by intro u hu; simp at hu; rcases hu with rfl | rfl <;> rfl) (by decide) (by decide) (by decide) (by simp) _ rfl ?_; intro g5 cap5 w5 hown5 hgrow5 hat5 hlt5; have B5 : Below w3.heap.size w3 w5 := (balloc B3 _).grown hgrow5 (by simp) (by intro q hq; simp [Value.ownBlock] at hq; omega))
      | (refine step_append_lies _ rfl (.tmp 48) (.tmp 49) 26 rfl w3.heap.size 5 iu (.int .u8 0) 1 1 Try.underlying26 hiu hu0 hu1 hu2 rfl (by decide) _ 2 _ (by simp [Act.eval, Act.put]) hown5 ⟨w.heap.size + 6, 0, none⟩ 2 2 [.int .u8 24, .int .u8 236] (by simp [Act.eval, Act.put]) rfl (nH _ B5) (by intro u hu; simp at hu; rcases hu with rfl | rfl <;> rfl) (by decide) (by decide) (by decide) B5.size _ rfl ?_; intro g6 cap6 w6 hown6 hgrow6 hat6 hlt6; have B6 : Below w3.heap.size w3 w6 := B5.grown hgrow6 B5.size (by intro q hq; exact (hown5.lt q hq).1))
      | (go_simp; go_at_call 18; (with_reducible refine (hwB _ g6 cap6 (liesB_owns hown6 hbsB'.out)).mono ?_); rintro e w7 ⟨vc7, rfl, hB7, hb7⟩; have B7 : Below w3.heap.size w3 w7 := bthen hb7 (by assumption))
      | (go_simp; go_at_call 17; (with_reducible refine (open_any (rE m n f) _ vc7 _ [] (withL (rE m n f).ip bsB []) [] w7 hB7).mono ?_); rintro e w8 ⟨g', cb', db', ccap', cap', icap', p', ra', gr', capr', gc', gd', rfl, Q'⟩; have B8 : Below w3.heap.size w3 w8 := bthen Q'.below (by assumption)))
  have S8 := Q.s.below B8
  have C8 := Q.c.below B8
  have q3 := Q.s.m.lt
  have q3d := Q.s.d.lt
  have q0 := Q'.g0
  have z7 := B7.size
  have b8w : Below w.heap.size w w8 := bthen B8 (bthen b3 bW'.out)
  have hS := step_goes g db cap cb ccap _ _ _ (memL_ok (withL_byt_ok plc_nil (rE m n f).ip bsA bytA)) _ rfl w8 S8 C8 Q.cc _ _ _ _ _ RA (by decide) (by decide) (by decide) (by decide) Q.cg Q.cd
  have hR : ∀ w9, Turn (two g db) w8 w9 → Calls Try.prog 16 #[at0 g', .int .i64 2] w9 fun e w' => e = .returned (.tuple #[.int .i64 2, .int .i64 0]) ∧ Sits w' g' db' cap' (.slice p' ([] : List Int).length icap') (.slice none 0 0) (.slice (some ⟨cb', 0, none⟩) 65536 ccap') (wideC (5 + 2) (3 + 2) m n f) ∧ Turn (two g' db') w9 w' := by
    intro w9 T9
    have hg' : ¬ two g db g' := fun q => by rcases q with q | q <;> omega
    have hd' : ¬ two g db db' := fun q => by rcases q with q | q <;> omega
    have hc' : ¬ two g db cb' := fun q => by rcases q with q | q <;> omega
    have S9 := Sits.far Q'.s T9 hg' hd'
    have C9 := Q'.c.turn T9 hc'
    have hCo := memL_ok (withL_byt_ok plc_nil (rE m n f).ip bsB bytB)
    refine (run_inv g' 2 (by decide) 2 (.inl (by decide)) 1 (by decide) (fun k X => Sits X g' db' cap' (.slice p' ([] : List Int).length icap') (.slice none 0 0) (.slice (some ⟨cb', 0, none⟩) 65536 ccap') (if k = 0 then ⟨rE m n f, memL []⟩ else if k = 1 then wideB (5 + 2) m n f else wideC (5 + 2) (3 + 2) m n f) ∧ Mem X cb' (memL (withL (rE m n f).ip bsB [])) ∧ Turn (two g' db') w9 X) ?_ ?_ w9 ⟨S9, C9, .refl _ _⟩).mono ?_
    · intro k X hk hI
      obtain ⟨I1, I2, I3⟩ := hI
      have : k = 0 ∨ k = 1 := by omega
      rcases this with rfl | rfl
      · refine (step_goes g' db' cap' cb' ccap' _ _ _ hCo _ rfl X I1 I2 Q'.cc _ _ _ _ _ RB (by decide) (by decide) (by decide) (by decide) Q'.cg Q'.cd).mono ?_
        rintro e w' ⟨rfl, J1, J2, J3⟩
        exact ⟨rfl, J1, J2, I3.trans J3⟩
      · refine (step_goes g' db' cap' cb' ccap' _ _ _ hCo (wideB (5 + 2) m n f) bhalt X I1 I2 Q'.cc _ _ _ _ _ (by rw [bip]; exact RC) (by decide) (by decide) (by decide) (by decide) Q'.cg Q'.cd).mono ?_
        rintro e w' ⟨rfl, J1, J2, J3⟩
        exact ⟨rfl, J1, J2, I3.trans J3⟩
    · intro h
      exact absurd h (by decide)
    · rintro e w' ⟨rfl, J1, J2, J3⟩
      exact ⟨rfl, J1, J3⟩
  clear RA RB RC
  go_wp2_with (first
    | (go_at_call 19; (with_reducible refine hS.mono ?_); rintro e w9 ⟨rfl, S9, M9, T9⟩)
    | (go_at_call 16; (with_reducible refine (hR w9 T9).mono ?_); rintro e w10 ⟨rfl, S10, T10⟩))
  have q00 := Q.g0
  have zW2 := hb2.size
  have zW := bW'.out.size
  have z37 := B7.size
  have SA : Sits w9 g db cap (.slice p ([] : List Int).length icap) (.slice none 0 0) (.slice (some ⟨cb, 0, none⟩) 65536 ccap) (wideA (5 + 2) m n f) := S9
  have SA10 := Sits.far SA T10 (fun q => by rcases q with q | q <;> omega) (fun q => by rcases q with q | q <;> omega)
  have MA := mach_cells SA10.m
  have MB := mach_cells S10.m
  have b9w : Below w.heap.size w w9 := T9.below b8w b8w.size (two_far (by omega) (by omega))
  have b10w : Below w.heap.size w w10 := T10.below b9w b9w.size (two_far (by omega) (by omega))
  obtain ⟨x, hx⟩ : ∃ x, x = (wideC (5 + 2) (3 + 2) m n f).r.R 0 := ⟨_, rfl⟩
  obtain ⟨y, hy⟩ : ∃ y, y = (wideC (5 + 2) (3 + 2) m n f).r.F.c := ⟨_, rfl⟩
  obtain ⟨z, hz⟩ : ∃ z, z = (wideC (5 + 2) (3 + 2) m n f).r.F.s := ⟨_, rfl⟩
  have A0 : w10.cell? ⟨g, 0, none⟩ = some (.int .u16 x) := by have q := MA.r0; rw [L1, ← hx] at q; exact q
  have Ac : w10.cell? ⟨g, 12, none⟩ = some (.bool y) := by have q := MA.fc; rw [L2, ← hy] at q; exact q
  have As : w10.cell? ⟨g, 8, none⟩ = some (.bool z) := by have q := MA.fs; rw [L3, ← hz] at q; exact q
  have Az : w10.cell? ⟨g, 9, none⟩ = some (.bool (x == 0)) := by have q := MA.fz; rw [L4, L1, ← hx] at q; exact q
  have C0 : w10.cell? ⟨g', 0, none⟩ = some (.int .u16 x) := by have q := MB.r0; rw [← hx] at q; exact q
  have Cc : w10.cell? ⟨g', 12, none⟩ = some (.bool y) := by have q := MB.fc; rw [← hy] at q; exact q
  have Cs : w10.cell? ⟨g', 8, none⟩ = some (.bool z) := by have q := MB.fs; rw [← hz] at q; exact q
  have B10 : Below w10.heap.size w10 w10.drew := bdrew (Below.refl _ _)
  clear hx hy hz L1 L2 L3 L4 MA MB SA SA10 S9 S10 Q Q' hS hR T9 T10 M9 kk kk3 nL nH
  simp only [List.append]
  go_still_tail 72, (by kernel_rfl)
  go_wp2_with (go_at_call 15; (with_reducible refine (alive11 _).mono ?_); rintro e wm ⟨rfl, hbm⟩)
  go_ret
  exact ⟨rfl, bthen hbm (bdrew b10w)⟩

theorem cpu86Wide_any (m n : Int) (less : Bool) (s z x p c : Bool) (m0 : 0 ≤ m) (m1 : m ≤ 65535) (n0 : 0 ≤ n) (n1 : n ≤ 65535) (w : World) :
    Calls Try.prog 4 #[.int .u16 m, .int .u16 n, .bool less, .agg #[.bool s, .bool z, .bool x, .bool p, .bool c]] w fun e w' => e = .returned (.bool true) ∧ Below w.heap.size w w' := by
  cases less
  · exact wide_false m n ⟨s, z, x, p, c⟩ m0 m1 n0 n1 w
  · exact wide_true m n ⟨s, z, x, p, c⟩ m0 m1 n0 n1 w

end Go.Proofs.Ytbhkndblolegaaa
