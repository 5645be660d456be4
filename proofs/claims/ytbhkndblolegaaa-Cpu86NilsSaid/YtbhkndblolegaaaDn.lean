/- The walk of cpu86.New. -/
import Derived.Test.YtbhkndblolegaaaDc
import Derived.Test.YtbhkndblolegaaaCh
import Derived.Deep.RegionHeld3
import Derived.Deep.CutRange
namespace Go.Proofs.Ytbhkndblolegaaa
open Go.RowKit
set_option linter.unusedVariables false
set_option linter.unusedSimpArgs false

/-- The cells of a state. -/
def cellsS (r : Rg) (vi vo : Value) : Array Value :=
  #[.int .u16 (r.R 0), .int .u16 (r.R 1), .int .u16 (r.R 2), .int .u16 (r.R 3), .int .u16 (r.R 4), .int .u16 (r.R 5), .int .u16 (r.R 6), .int .u16 (r.R 7),
    .bool r.F.s, .bool r.F.z, .bool r.F.a, .bool r.F.p, .bool r.F.c, .int .u16 r.ip, .bool r.ie, .bool r.halt, vi, vo]
structure Cells18 (w : World) (g : Nat) (r : Rg) (vi vo : Value) : Prop where
  r0 : w.cell? ⟨g, 0, none⟩ = some (.int .u16 (r.R 0))
  r1 : w.cell? ⟨g, 1, none⟩ = some (.int .u16 (r.R 1))
  r2 : w.cell? ⟨g, 2, none⟩ = some (.int .u16 (r.R 2))
  r3 : w.cell? ⟨g, 3, none⟩ = some (.int .u16 (r.R 3))
  r4 : w.cell? ⟨g, 4, none⟩ = some (.int .u16 (r.R 4))
  r5 : w.cell? ⟨g, 5, none⟩ = some (.int .u16 (r.R 5))
  r6 : w.cell? ⟨g, 6, none⟩ = some (.int .u16 (r.R 6))
  r7 : w.cell? ⟨g, 7, none⟩ = some (.int .u16 (r.R 7))
  fs : w.cell? ⟨g, 8, none⟩ = some (.bool r.F.s)
  fz : w.cell? ⟨g, 9, none⟩ = some (.bool r.F.z)
  fa : w.cell? ⟨g, 10, none⟩ = some (.bool r.F.a)
  fp : w.cell? ⟨g, 11, none⟩ = some (.bool r.F.p)
  fc : w.cell? ⟨g, 12, none⟩ = some (.bool r.F.c)
  ip : w.cell? ⟨g, 13, none⟩ = some (.int .u16 r.ip)
  ie : w.cell? ⟨g, 14, none⟩ = some (.bool r.ie)
  halt : w.cell? ⟨g, 15, none⟩ = some (.bool r.halt)
  vi : w.cell? ⟨g, 16, none⟩ = some vi
  vo : w.cell? ⟨g, 17, none⟩ = some vo
theorem mach_cells18 {w : World} {g : Nat} {r : Rg} {vi vo : Value} (h : Own w g (cellsS r vi vo) 47) : Cells18 w g r vi vo :=
  ⟨h.cell 0, h.cell 1, h.cell 2, h.cell 3, h.cell 4, h.cell 5, h.cell 6, h.cell 7, h.cell 8, h.cell 9, h.cell 10, h.cell 11, h.cell 12, h.cell 13, h.cell 14, h.cell 15, h.cell 16, h.cell 17⟩
theorem Cells18.below {w w1 : World} {g : Nat} {r : Rg} {vi vo : Value} (h : Cells18 w g r vi vo) (k : Below w.heap.size w w1) : Cells18 w1 g r vi vo :=
  ⟨cell_below h.r0 k, cell_below h.r1 k, cell_below h.r2 k, cell_below h.r3 k, cell_below h.r4 k, cell_below h.r5 k, cell_below h.r6 k, cell_below h.r7 k, cell_below h.fs k, cell_below h.fz k, cell_below h.fa k, cell_below h.fp k, cell_below h.fc k, cell_below h.ip k, cell_below h.ie k, cell_below h.halt k, cell_below h.vi k, cell_below h.vo k⟩

set_option maxRecDepth 100000 in
set_option maxHeartbeats 2000000 in
theorem new_any (r : Rg) (hr : r.Ok) (vi : Value) (zs : List Int) (hz : zs.length ≤ 256) (cb db : Nat) (C D : Dat) (hD : D.Ok) (w : World) (hi : LiesB w vi zs) (hc : Mem w cb C) (hd : Mem w db D) :
    Calls Try.prog 30 #[.agg (cellsS r vi (.slice none 0 0)), .slice (some ⟨cb, 0, none⟩) 65536 65536, .slice (some ⟨db, 0, none⟩) 65536 65536] w fun e w' =>
      ∃ g cb' db' ccap cap p' icap', e = .returned (.tuple #[at0 g, .int .i64 0]) ∧ Sits w' g db' cap (.slice p' zs.length icap') (.slice none 0 0) (.slice (some ⟨cb', 0, none⟩) 65536 ccap) ⟨r, D⟩ ∧ Mem w' cb' C ∧ (65536 : Int) ≤ ccap ∧ LiesB w' (.slice p' zs.length icap') zs ∧ (∀ a, p' = some a → w.heap.size ≤ a.block ∧ a.block < w'.heap.size ∧ ¬ a.block = g ∧ ¬ a.block = db' ∧ ¬ a.block = cb') ∧
        ¬ cb' = g ∧ ¬ cb' = db' ∧ w.heap.size ≤ g ∧ w.heap.size ≤ cb' ∧ w.heap.size ≤ db' ∧ Below w.heap.size w w' := by
  have hi' := hi
  obtain ⟨p, icap, rfl, hn, hs⟩ := hi'
  have hlen : (zs.length : Int) ≤ 256 := by omega
  unfold cellsS
  go_enter Try.func30, Try.ntmps30
  go_wp2_with fail
  obtain ⟨W, hW⟩ : ∃ W, W = w.alloc (.cells (cellsS r (.slice p zs.length icap) (.slice none 0 0)) 47) := ⟨_, rfl⟩
  have O : Own W w.heap.size (cellsS r (.slice p zs.length icap) (.slice none 0 0)) 47 := by rw [hW]; exact own_new _ _ _
  have bW : Below w.heap.size w W := by rw [hW]; exact balloc (Below.refl _ _) _
  unfold cellsS at hW
  rw [← hW]
  clear hW hs
  have hiW : ∀ w1, Below W.heap.size W w1 → LiesB w1 (.slice p zs.length icap) zs := fun w1 h => (hi.below bW).below h
  have CI : ∀ w1, Below W.heap.size W w1 → Calls Try.prog 46 #[.slice p zs.length icap] w1 fun e w' => ∃ p' cap', e = .returned (.slice p' zs.length cap') ∧ LiesB w' (.slice p' zs.length cap') zs ∧ (∀ a, p' = some a → w1.heap.size ≤ a.block ∧ a.block < w'.heap.size) ∧ Below w1.heap.size w1 w' := fun w1 h => clone_lies _ zs (by omega) w1 (hiW w1 h)
  have k16 : W.cell? ⟨w.heap.size, 16, none⟩ = some (.slice p zs.length icap) := O.cell 16
  have k17 : W.cell? ⟨w.heap.size, 17, none⟩ = some (.slice none 0 0) := O.cell 17
  have O' := Lib.hid O
  have ltW := O.lt
  clear O
  go_cut [6, 7] from 22 to 29 (fun a b wx => ∃ p' cap', a = .pointer none ∧ b = .int .i64 0 ∧ LiesB wx (.slice p' zs.length cap') zs ∧ Own wx w.heap.size (cellsS r (.slice p' zs.length cap') (.slice none 0 0)) 47 ∧ (∀ a, p' = some a → w.heap.size < a.block ∧ a.block < wx.heap.size) ∧ Below w.heap.size w wx)
  case first =>
    go_region_with (first
      | (go_at_call 46; (with_reducible refine (CI _ ?_).mono ?_); (focus (repeat (first | with_reducible exact Below.refl _ _ | with_reducible assumption | with_reducible apply balloc | with_reducible apply bdrew | with_reducible apply bdrewN))); rintro e w1 ⟨p', cap', rfl, hv', hbl, hb1⟩; have Ob : Own w1 w.heap.size (cellsS r (.slice p zs.length icap) (.slice none 0 0)) 47 := (by first | exact O'.out.below hb1 | exact O'.out.drew.below hb1 | exact (O'.out.drewN _).below hb1); have e16 := Ob.frozen 16; have e17 := Ob.frozen 17; have l16 := Ob.lt; have c16 : w1.cell? ⟨w.heap.size, 16, none⟩ = some (.slice p zs.length icap) := Ob.cell 16; have c17 : w1.cell? ⟨w.heap.size, 17, none⟩ = some (.slice none 0 0) := Ob.cell 17)
      | (go_at_call 47; (with_reducible refine (clone_out 0 0 _).mono ?_); rintro e w1 ⟨rfl, rfl⟩))
    all_goals go_wp2_with fail
    all_goals go_meet
    all_goals
      have ez : W.drew.heap.size = W.heap.size := rfl
      have hx : ∀ a, p' = some a → w.heap.size < a.block := fun a ha => by have := (hbl a ha).1; omega
      have hx2 : ∀ a, p' = some a → ¬ a.block = w.heap.size := fun a ha => by have := hx a ha; omega
      have bb : Below w.heap.size w w1 := by first | exact bthen hb1 bW | exact bthen hb1 (bdrew bW)
      exact ⟨p', cap', rfl, rfl, (hv'.setOther _ hx2).setOther _ hx2, own_eq ((Ob.set 16 _).set 17 _) (by simp [cellsS]), (fun a ha => ⟨hx a ha, by have := (hbl a ha).2; simpa [World.setCell] using this⟩), bset (by simp) (bset (by simp) bb)⟩
  case rest =>
    obtain ⟨p', cap', rfl, rfl, hv, Ow, hbl, hb⟩ := hcut
    have hcw := hc.below hb
    have hdw := hd.below hb
    have Sc := mach_cells18 Ow
    have Ow' := Lib.hid Ow
    clear Ow hc hd hi CI hiW O' k16 k17 bW
    have Sc' := Lib.hid Sc
    obtain ⟨s0, s1, s2, s3, s4, s5, s6, s7, s8, s9, s10, s11, s12, s13, s14, s15, s16, s17⟩ := Sc
    have CC := fun w1 h => clone_mem cb C 65536 w1 (hcw.below h)
    have CD := fun w1 h => clone_mem db D 65536 w1 (hdw.below h)
    have hcw' := Lib.hid hcw
    have hdw' := Lib.hid hdw
    clear hcw hdw
    go_upto_region 4 with (fail)
    have kk : ∀ W, Below wc.heap.size wc W → (W.cell? ⟨w.heap.size, 0, none⟩ = some (.int .u16 (r.R 0)) ∧ W.cell? ⟨w.heap.size, 1, none⟩ = some (.int .u16 (r.R 1)) ∧ W.cell? ⟨w.heap.size, 2, none⟩ = some (.int .u16 (r.R 2)) ∧ W.cell? ⟨w.heap.size, 3, none⟩ = some (.int .u16 (r.R 3)) ∧ W.cell? ⟨w.heap.size, 4, none⟩ = some (.int .u16 (r.R 4)) ∧ W.cell? ⟨w.heap.size, 5, none⟩ = some (.int .u16 (r.R 5)) ∧ W.cell? ⟨w.heap.size, 6, none⟩ = some (.int .u16 (r.R 6)) ∧ W.cell? ⟨w.heap.size, 7, none⟩ = some (.int .u16 (r.R 7)) ∧ W.cell? ⟨w.heap.size, 8, none⟩ = some (.bool r.F.s) ∧ W.cell? ⟨w.heap.size, 9, none⟩ = some (.bool r.F.z) ∧ W.cell? ⟨w.heap.size, 10, none⟩ = some (.bool r.F.a) ∧ W.cell? ⟨w.heap.size, 11, none⟩ = some (.bool r.F.p) ∧ W.cell? ⟨w.heap.size, 12, none⟩ = some (.bool r.F.c) ∧ W.cell? ⟨w.heap.size, 13, none⟩ = some (.int .u16 r.ip) ∧ W.cell? ⟨w.heap.size, 14, none⟩ = some (.bool r.ie) ∧ W.cell? ⟨w.heap.size, 15, none⟩ = some (.bool r.halt) ∧ W.cell? ⟨w.heap.size, 16, none⟩ = some (.slice p' zs.length cap') ∧ W.cell? ⟨w.heap.size, 17, none⟩ = some (.slice none 0 0)) := fun W h => ⟨cell_below s0 h, cell_below s1 h, cell_below s2 h, cell_below s3 h, cell_below s4 h, cell_below s5 h, cell_below s6 h, cell_below s7 h, cell_below s8 h, cell_below s9 h, cell_below s10 h, cell_below s11 h, cell_below s12 h, cell_below s13 h, cell_below s14 h, cell_below s15 h, cell_below s16 h, cell_below s17 h⟩
    have B0 : Below wc.heap.size wc wc.drew := bdrew (Below.refl _ _)
    go_region_held3 (fun W => (W.cell? ⟨w.heap.size, 0, none⟩ = some (.int .u16 (r.R 0)) ∧ W.cell? ⟨w.heap.size, 1, none⟩ = some (.int .u16 (r.R 1)) ∧ W.cell? ⟨w.heap.size, 2, none⟩ = some (.int .u16 (r.R 2)) ∧ W.cell? ⟨w.heap.size, 3, none⟩ = some (.int .u16 (r.R 3)) ∧ W.cell? ⟨w.heap.size, 4, none⟩ = some (.int .u16 (r.R 4)) ∧ W.cell? ⟨w.heap.size, 5, none⟩ = some (.int .u16 (r.R 5)) ∧ W.cell? ⟨w.heap.size, 6, none⟩ = some (.int .u16 (r.R 6)) ∧ W.cell? ⟨w.heap.size, 7, none⟩ = some (.int .u16 (r.R 7)) ∧ W.cell? ⟨w.heap.size, 8, none⟩ = some (.bool r.F.s) ∧ W.cell? ⟨w.heap.size, 9, none⟩ = some (.bool r.F.z) ∧ W.cell? ⟨w.heap.size, 10, none⟩ = some (.bool r.F.a) ∧ W.cell? ⟨w.heap.size, 11, none⟩ = some (.bool r.F.p) ∧ W.cell? ⟨w.heap.size, 12, none⟩ = some (.bool r.F.c) ∧ W.cell? ⟨w.heap.size, 13, none⟩ = some (.int .u16 r.ip) ∧ W.cell? ⟨w.heap.size, 14, none⟩ = some (.bool r.ie) ∧ W.cell? ⟨w.heap.size, 15, none⟩ = some (.bool r.halt) ∧ W.cell? ⟨w.heap.size, 16, none⟩ = some (.slice p' zs.length cap') ∧ W.cell? ⟨w.heap.size, 17, none⟩ = some (.slice none 0 0)) ∧ Below wc.heap.size wc W)
      ((refine (fun hT => ⟨kk _ hT, hT⟩) ?_; (repeat (first | with_reducible exact Below.refl _ _ | with_reducible assumption | with_reducible apply bdrew | with_reducible apply balloc))))
      (first
        | (go_simp; go_at_call 46; (with_reducible refine (CC _ ?_).mono ?_); (focus (repeat (first | with_reducible exact Below.refl _ _ | with_reducible assumption | with_reducible apply balloc | with_reducible apply bdrew | with_reducible apply bdrewN))); rintro e wk ⟨gc, ccap, rfl, hgc, hccap, hMc, hbc⟩; have hbc2 : Below wc.heap.size wc wk := bthen hbc (by assumption))
        | (go_simp; go_at_call 46; (with_reducible refine (CD _ ?_).mono ?_); (focus (repeat (first | with_reducible exact Below.refl _ _ | with_reducible assumption | with_reducible apply balloc | with_reducible apply bdrew | with_reducible apply bdrewN))); rintro e wd ⟨gd, dcap, rfl, hgd, hdcap, hMd, hbd⟩; have hbd2 : Below wc.heap.size wc wd := bthen hbd (by assumption)))
    go_wp2_with fail
    go_ret2
    have l1 := hMc.lt
    have l2 := hMd.lt
    have z1 : wc.drew.heap.size = wc.heap.size := rfl
    have z2 := hbc2.size
    have z3 := hbd2.size
    have z4 := hbd.size
    have z5 := hb.size
    refine ⟨wd.heap.size, gc, gd, ccap, dcap, p', cap', rfl, ⟨own_new _ _ _, (hMd.below (balloc (Below.refl _ _) _)), by omega, hdcap, ⟨hr, hD⟩⟩, (hMc.below hbd).below (balloc (Below.refl _ _) _), hccap, ((hv.below hbd2).below (balloc (Below.refl _ _) _)), (fun a ha => ⟨by have := hbl a ha; omega, Nat.lt_of_lt_of_le (hbl a ha).2 (Nat.le_trans hbd2.size (balloc (Below.refl _ _) _).size), by have := hbl a ha; omega, by have := hbl a ha; omega, by have := hbl a ha; omega⟩), by omega, by omega, by omega, by omega, by omega, balloc (bthen hbd2 hb) _⟩

end Go.Proofs.Ytbhkndblolegaaa
