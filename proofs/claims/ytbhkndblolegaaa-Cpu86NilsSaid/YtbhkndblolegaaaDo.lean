/- The walk of pidginlaw11.Open. -/
import Derived.Test.YtbhkndblolegaaaDw
import Derived.Test.YtbhkndblolegaaaDn
import Derived.Test.YtbhkndblolegaaaCc
namespace Go.Proofs.Ytbhkndblolegaaa
open Go.RowKit
set_option linter.unusedVariables false
set_option linter.unusedSimpArgs false

/-- A start in memory: its registers, its input, its bytes of code and data. -/
structure Begin (w : World) (r : Rg) (vi vc vd : Value) (zs : List Int) (lc ld : Plc) : Prop where
  ok : r.Ok
  halt : r.halt = false
  i : LiesB w vi zs
  c : LiesP w vc lc
  d : LiesP w vd ld
  cok : lc.Ok
  dok : ld.Ok
  il : zs.length ≤ 256
  cl : lc.length ≤ 2000
  dl : ld.length ≤ 2000
theorem Begin.below {w w1 : World} {r : Rg} {vi vc vd : Value} {zs : List Int} {lc ld : Plc} (h : Begin w r vi vc vd zs lc ld) (k : Below w.heap.size w w1) : Begin w1 r vi vc vd zs lc ld :=
  ⟨h.ok, h.halt, h.i.below k, h.c.below k, h.d.below k, h.cok, h.dok, h.il, h.cl, h.dl⟩

def cellsR (r : Rg) : Array Value := #[.int .u16 (r.R 0), .int .u16 (r.R 1), .int .u16 (r.R 2), .int .u16 (r.R 3), .int .u16 (r.R 4), .int .u16 (r.R 5), .int .u16 (r.R 6), .int .u16 (r.R 7)]
theorem cellsR_one (r : Rg) : ∀ u ∈ (cellsR r).toList, u.oneCell' = true := by
  intro u hu
  simp [cellsR] at hu
  rcases hu with rfl | rfl | rfl | rfl | rfl | rfl | rfl | rfl <;> rfl
/-- The cells of the document's machine. -/
def cellsQ (r : Rg) (vr vi vo vc vd : Value) : Array Value :=
  #[vr, .bool r.F.s, .bool r.F.z, .bool r.F.a, .bool r.F.p, .bool r.F.c, .int .u16 r.ip, .bool r.ie, .bool r.halt, vi, vo, vc, vd]
/-- The document's machine as it lies in memory: its own block, its registers, its data. -/
structure Told86 (w : World) (ra gr capr gd : Nat) (vi vo vc : Value) (s : St) : Prop where
  m : Own w ra (cellsQ s.r (.slice (some ⟨gr, 0, none⟩) 8 capr) vi vo vc (.slice (some ⟨gd, 0, none⟩) 65536 65536)) 71
  r : ∀ i, i < 8 → w.cell? ⟨gr, i, none⟩ = some (.int .u16 (s.r.R i))
  rf : ∀ i, i < 8 → w.frozen? ⟨gr, i, none⟩ = false
  rc : 8 ≤ capr
  d : Mem w gd s.D
  n1 : ¬ ra = gr
  n2 : ¬ ra = gd
  n3 : ¬ gr = gd
  ok : s.Ok
/-- What Open leaves. -/
structure Opened (w0 w : World) (r : Rg) (vi : Value) (zs : List Int) (lc ld : Plc) (g cb db ccap cap icap : Nat) (p : Option Addr) (ra gr capr gc gd : Nat) : Prop where
  s : Sits w g db cap (.slice p zs.length icap) (.slice none 0 0) (.slice (some ⟨cb, 0, none⟩) 65536 ccap) ⟨r, memL ld⟩
  c : Mem w cb (memL lc)
  cc : (65536 : Int) ≤ ccap
  i : LiesB w (.slice p zs.length icap) zs
  ia : ∀ a, p = some a → w0.heap.size ≤ a.block ∧ ¬ a.block = g ∧ ¬ a.block = db ∧ ¬ a.block = cb ∧ a.block < gr
  cg : ¬ cb = g
  cd : ¬ cb = db
  g0 : w0.heap.size ≤ g ∧ w0.heap.size ≤ cb ∧ w0.heap.size ≤ db
  q : Told86 w ra gr capr gd vi (.slice none 0 0) (.slice (some ⟨gc, 0, none⟩) 65536 65536) ⟨r, memL ld⟩
  qi : LiesB w vi zs
  qc : Mem w gc (memL lc)
  far : g < gr ∧ cb < gr ∧ db < gr ∧ gr < gc ∧ gc < gd ∧ gd < ra
  below : Below w0.heap.size w0 w
theorem infoU16 : (Try.prog.info? 22).map (fun i => (i.zero, i.size, i.bytes)) = some (some (.int .u16 0), 1, 2) := by kernel_rfl

set_option maxRecDepth 100000 in
set_option maxHeartbeats 4000000 in
theorem open_any (r : Rg) (vi vc vd : Value) (zs : List Int) (lc ld : Plc) (w : World) (hB : Begin w r vi vc vd zs lc ld) :
    Calls Try.prog 17 #[.agg (cellsT r vi vc vd)] w fun e w' => ∃ g cb db ccap cap icap p ra gr capr gc gd, e = .returned (.tuple #[at0 g, at0 ra, .int .i64 0]) ∧ Opened w w' r vi zs lc ld g cb db ccap cap icap p ra gr capr gc gd := by
  obtain ⟨pi, icap, rfl, hpi, hsi⟩ := hB.i
  obtain ⟨pc, ccap, rfl, hpc, hsc⟩ := hB.c
  obtain ⟨pd, dcap, rfl, hpd, hsd⟩ := hB.d
  clear hsi hsc hsd hpi hpc hpd
  have hO := own_any r.F.s r.F.z r.F.a r.F.p r.F.c
  have hMc := fun w1 h => memory_lies _ lc hB.cok (by have := hB.cl; omega) w1 (hB.c.below h)
  have hMd := fun w1 h => memory_lies _ ld hB.dok (by have := hB.dl; omega) w1 (hB.d.below h)
  have hN := fun (cb db : Nat) (w1 : World) (h : Below w.heap.size w w1) (hc : Mem w1 cb (memL lc)) (hd : Mem w1 db (memL ld)) => new_any r hB.ok _ zs hB.il cb db (memL lc) (memL ld) (memL_ok hB.dok) w1 (hB.i.below h) hc hd
  unfold cellsS at hN
  rw [hB.halt] at hN
  have hB' := Lib.hid hB
  clear hB
  unfold cellsT
  go_enter Try.func17, Try.ntmps17
  go_upto_region 1 with (fail)
  obtain ⟨W, hW⟩ : ∃ W, W = w.alloc (.cells (cellsT r (.slice pi zs.length icap) (.slice pc lc.length ccap) (.slice pd ld.length dcap)) 29) := ⟨_, rfl⟩
  have OB : Own W w.heap.size (cellsT r (.slice pi zs.length icap) (.slice pc lc.length ccap) (.slice pd ld.length dcap)) 29 := by rw [hW]; exact own_new _ _ _
  have bW : Below w.heap.size w W := by rw [hW]; exact balloc (Below.refl _ _) _
  unfold cellsT at hW
  rw [← hW]
  clear hW
  have kk : ∀ X, Below W.heap.size W X → (X.cell? ⟨w.heap.size, 0, none⟩ = some (.int .u16 (r.R 0)) ∧ X.cell? ⟨w.heap.size, 1, none⟩ = some (.int .u16 (r.R 1)) ∧ X.cell? ⟨w.heap.size, 2, none⟩ = some (.int .u16 (r.R 2)) ∧ X.cell? ⟨w.heap.size, 3, none⟩ = some (.int .u16 (r.R 3)) ∧ X.cell? ⟨w.heap.size, 4, none⟩ = some (.int .u16 (r.R 4)) ∧ X.cell? ⟨w.heap.size, 5, none⟩ = some (.int .u16 (r.R 5)) ∧ X.cell? ⟨w.heap.size, 6, none⟩ = some (.int .u16 (r.R 6)) ∧ X.cell? ⟨w.heap.size, 7, none⟩ = some (.int .u16 (r.R 7)) ∧ X.cell? ⟨w.heap.size, 8, none⟩ = some (.bool r.F.s) ∧ X.cell? ⟨w.heap.size, 9, none⟩ = some (.bool r.F.z) ∧ X.cell? ⟨w.heap.size, 10, none⟩ = some (.bool r.F.a) ∧ X.cell? ⟨w.heap.size, 11, none⟩ = some (.bool r.F.p) ∧ X.cell? ⟨w.heap.size, 12, none⟩ = some (.bool r.F.c) ∧ X.cell? ⟨w.heap.size, 13, none⟩ = some (.int .u16 r.ip) ∧ X.cell? ⟨w.heap.size, 14, none⟩ = some (.bool r.ie) ∧ X.cell? ⟨w.heap.size, 15, none⟩ = some (.slice pi zs.length icap) ∧ X.cell? ⟨w.heap.size, 16, none⟩ = some (.slice pc lc.length ccap) ∧ X.cell? ⟨w.heap.size, 17, none⟩ = some (.slice pd ld.length dcap)) := fun X h => cells18T (OB.below h)
  have szW : w.heap.size < W.heap.size := OB.lt
  have B0 : Below W.heap.size W W.drew := bdrew (Below.refl _ _)
  have OB' := Lib.hid OB
  clear OB
  go_region_held3 (fun X => (X.cell? ⟨w.heap.size, 0, none⟩ = some (.int .u16 (r.R 0)) ∧ X.cell? ⟨w.heap.size, 1, none⟩ = some (.int .u16 (r.R 1)) ∧ X.cell? ⟨w.heap.size, 2, none⟩ = some (.int .u16 (r.R 2)) ∧ X.cell? ⟨w.heap.size, 3, none⟩ = some (.int .u16 (r.R 3)) ∧ X.cell? ⟨w.heap.size, 4, none⟩ = some (.int .u16 (r.R 4)) ∧ X.cell? ⟨w.heap.size, 5, none⟩ = some (.int .u16 (r.R 5)) ∧ X.cell? ⟨w.heap.size, 6, none⟩ = some (.int .u16 (r.R 6)) ∧ X.cell? ⟨w.heap.size, 7, none⟩ = some (.int .u16 (r.R 7)) ∧ X.cell? ⟨w.heap.size, 8, none⟩ = some (.bool r.F.s) ∧ X.cell? ⟨w.heap.size, 9, none⟩ = some (.bool r.F.z) ∧ X.cell? ⟨w.heap.size, 10, none⟩ = some (.bool r.F.a) ∧ X.cell? ⟨w.heap.size, 11, none⟩ = some (.bool r.F.p) ∧ X.cell? ⟨w.heap.size, 12, none⟩ = some (.bool r.F.c) ∧ X.cell? ⟨w.heap.size, 13, none⟩ = some (.int .u16 r.ip) ∧ X.cell? ⟨w.heap.size, 14, none⟩ = some (.bool r.ie) ∧ X.cell? ⟨w.heap.size, 15, none⟩ = some (.slice pi zs.length icap) ∧ X.cell? ⟨w.heap.size, 16, none⟩ = some (.slice pc lc.length ccap) ∧ X.cell? ⟨w.heap.size, 17, none⟩ = some (.slice pd ld.length dcap)) ∧ Below W.heap.size W X)
    ((refine (fun hT => ⟨kk _ hT, hT⟩) ?_; (repeat (first | with_reducible exact Below.refl _ _ | with_reducible assumption | with_reducible apply balloc | with_reducible apply bdrew | with_reducible apply bdrewN))))
    (first
      | (go_simp; go_at_call 38; (with_reducible refine (hO _).mono ?_); rintro e w1 ⟨rfl, hb1⟩; have hB1 : Below W.heap.size W w1 := bthen hb1 (by assumption))
      | (go_simp; go_at_call 39; (with_reducible refine (hMc _ ?_).mono ?_); (focus exact bthen hB1 bW); rintro e w2 ⟨gc, rfl, hgc, hmc, hb2⟩; have hB2 : Below W.heap.size W w2 := bthen hb2 (by assumption))
      | (go_simp; go_at_call 39; (with_reducible refine (hMd _ ?_).mono ?_); (focus exact bthen hB2 bW); rintro e w3 ⟨gd, rfl, hgd, hmd, hb3⟩; have hB3 : Below W.heap.size W w3 := bthen hb3 (by assumption))
      | (go_simp; go_at_call 30; (with_reducible refine (hN gc gd _ (bthen hB3 bW) (hmc.below hb3) hmd).mono ?_); rintro e w4 ⟨g, cb, db, ccap', cap', p', icap', rfl, hS, hC, hcc, hI, hpb, hn1, hn2, hg1, hg2, hg3, hb4⟩; have hB4 : Below W.heap.size W w4 := bthen hb4 (by assumption)))
  obtain ⟨s0, s1, s2, s3, s4, s5, s6, s7, s8, s9, s10, s11, s12, s13, s14, s15, s16, s17⟩ := cells18T (OB'.out.below hB4)
  have szW4 : w.heap.size < w4.heap.size := Nat.lt_of_lt_of_le szW hB4.size
  go_upto_region 3 with (fail)
  clear s0 s1 s2 s3 s4 s5 s6 s7 s8 s9 s10 s11 s12 s13 s14 s15 s16 s17 hMc kk
  have o5 := own_new w4 (cellsR r) 23
  obtain ⟨w5, hw5⟩ : ∃ w5, w5 = w4.alloc (.cells (cellsR r) 23) := ⟨_, rfl⟩
  rw [← hw5] at o5
  unfold cellsR at hw5
  rw [← hw5]
  have b5 : Below w4.heap.size w4 w5 := by rw [hw5]; exact balloc (Below.refl _ _) _
  have z5 : w5.heap.size = w4.heap.size + 1 := by rw [hw5]; simp
  clear hw5
  have bw5 : Below w.heap.size w w5 := bthen b5 (bthen hB4 bW)
  have kk : ∀ X, Below w5.heap.size w5 X → (X.cell? ⟨w.heap.size, 0, none⟩ = some (.int .u16 (r.R 0)) ∧ X.cell? ⟨w.heap.size, 1, none⟩ = some (.int .u16 (r.R 1)) ∧ X.cell? ⟨w.heap.size, 2, none⟩ = some (.int .u16 (r.R 2)) ∧ X.cell? ⟨w.heap.size, 3, none⟩ = some (.int .u16 (r.R 3)) ∧ X.cell? ⟨w.heap.size, 4, none⟩ = some (.int .u16 (r.R 4)) ∧ X.cell? ⟨w.heap.size, 5, none⟩ = some (.int .u16 (r.R 5)) ∧ X.cell? ⟨w.heap.size, 6, none⟩ = some (.int .u16 (r.R 6)) ∧ X.cell? ⟨w.heap.size, 7, none⟩ = some (.int .u16 (r.R 7)) ∧ X.cell? ⟨w.heap.size, 8, none⟩ = some (.bool r.F.s) ∧ X.cell? ⟨w.heap.size, 9, none⟩ = some (.bool r.F.z) ∧ X.cell? ⟨w.heap.size, 10, none⟩ = some (.bool r.F.a) ∧ X.cell? ⟨w.heap.size, 11, none⟩ = some (.bool r.F.p) ∧ X.cell? ⟨w.heap.size, 12, none⟩ = some (.bool r.F.c) ∧ X.cell? ⟨w.heap.size, 13, none⟩ = some (.int .u16 r.ip) ∧ X.cell? ⟨w.heap.size, 14, none⟩ = some (.bool r.ie) ∧ X.cell? ⟨w.heap.size, 15, none⟩ = some (.slice pi zs.length icap) ∧ X.cell? ⟨w.heap.size, 16, none⟩ = some (.slice pc lc.length ccap) ∧ X.cell? ⟨w.heap.size, 17, none⟩ = some (.slice pd ld.length dcap)) := fun X h => cells18T (((OB'.out.below hB4).below b5).below h)
  have hMc := fun w1 (h : Below w5.heap.size w5 w1) => memory_lies _ lc hB'.out.cok (by have := hB'.out.cl; omega) w1 (hB'.out.c.below (bthen h bw5))
  have hMd := fun w1 (h : Below w5.heap.size w5 w1) => memory_lies _ ld hB'.out.dok (by have := hB'.out.dl; omega) w1 (hB'.out.d.below (bthen h bw5))
  obtain ⟨iu, hiu, hu0, hu1, hu2⟩ := info_parts infoU16
  have B5 : Below w5.heap.size w5 w5.drew := bdrew (Below.refl _ _)
  have l4 : w4.heap.size < w5.heap.size := by omega
  have z5' := Lib.hid z5
  clear z5
  go_region_held3 (fun X => (X.cell? ⟨w.heap.size, 0, none⟩ = some (.int .u16 (r.R 0)) ∧ X.cell? ⟨w.heap.size, 1, none⟩ = some (.int .u16 (r.R 1)) ∧ X.cell? ⟨w.heap.size, 2, none⟩ = some (.int .u16 (r.R 2)) ∧ X.cell? ⟨w.heap.size, 3, none⟩ = some (.int .u16 (r.R 3)) ∧ X.cell? ⟨w.heap.size, 4, none⟩ = some (.int .u16 (r.R 4)) ∧ X.cell? ⟨w.heap.size, 5, none⟩ = some (.int .u16 (r.R 5)) ∧ X.cell? ⟨w.heap.size, 6, none⟩ = some (.int .u16 (r.R 6)) ∧ X.cell? ⟨w.heap.size, 7, none⟩ = some (.int .u16 (r.R 7)) ∧ X.cell? ⟨w.heap.size, 8, none⟩ = some (.bool r.F.s) ∧ X.cell? ⟨w.heap.size, 9, none⟩ = some (.bool r.F.z) ∧ X.cell? ⟨w.heap.size, 10, none⟩ = some (.bool r.F.a) ∧ X.cell? ⟨w.heap.size, 11, none⟩ = some (.bool r.F.p) ∧ X.cell? ⟨w.heap.size, 12, none⟩ = some (.bool r.F.c) ∧ X.cell? ⟨w.heap.size, 13, none⟩ = some (.int .u16 r.ip) ∧ X.cell? ⟨w.heap.size, 14, none⟩ = some (.bool r.ie) ∧ X.cell? ⟨w.heap.size, 15, none⟩ = some (.slice pi zs.length icap) ∧ X.cell? ⟨w.heap.size, 16, none⟩ = some (.slice pc lc.length ccap) ∧ X.cell? ⟨w.heap.size, 17, none⟩ = some (.slice pd ld.length dcap)) ∧ Below w5.heap.size w5 X)
    ((refine (fun hT => ⟨kk _ hT, hT⟩) ?_; (repeat (first | with_reducible exact Below.refl _ _ | with_reducible assumption | with_reducible apply balloc | with_reducible apply bdrew | with_reducible apply bdrewN))))
    (first
      | (refine step_append_lies _ rfl (.tmp 33) (.tmp 34) 69 rfl w5.heap.size 22 iu (.int .u16 0) 1 2 Try.underlying69 hiu hu0 hu1 hu2 rfl (by decide) _ 0 [] (by simp [Act.eval, Act.put]) (World.ownsRow_made w5.drew #[] 0 (Nat.le_refl _) (Nat.zero_le _) rfl) ⟨w4.heap.size, 0, none⟩ 8 8 (cellsR r).toList (by simp [Act.eval, Act.put]) rfl (World.news_of_block (o5.drew.alloc _)) (cellsR_one r) (by decide) (by decide) (by decide) (by simp) _ rfl ?_; intro gr capr w8 hown8 hgrow8 hat8 hlt8; have hB8 : Below w5.heap.size w5 w8 := (balloc (bdrew (Below.refl _ _)) _).grown hgrow8 (by simp) (by intro q hq; simp [Value.ownBlock] at hq; omega))
      | (go_simp; go_at_call 39; (with_reducible refine (hMc _ ?_).mono ?_); (focus (repeat (first | with_reducible exact Below.refl _ _ | with_reducible assumption | with_reducible apply balloc | with_reducible apply bdrew | with_reducible apply bdrewN))); rintro e w6 ⟨gc2, rfl, hgc2, hmc2, hb6⟩; have hB6 : Below w5.heap.size w5 w6 := bthen hb6 (by assumption); have y86 := hb6.size)
      | (go_simp; go_at_call 39; (with_reducible refine (hMd _ ?_).mono ?_); (focus (repeat (first | with_reducible exact Below.refl _ _ | with_reducible assumption | with_reducible apply balloc | with_reducible apply bdrew | with_reducible apply bdrewN))); rintro e w7 ⟨gd2, rfl, hgd2, hmd2, hb7⟩; have hB7 : Below w5.heap.size w5 w7 := bthen hb7 (by assumption)))
  go_wp2_with fail
  go_ret3
  have l1 := hS.m.lt
  have l2 := hC.lt
  have l3 := hS.d.lt
  have y8 := hB8.size
  have y6 := hB6.size
  have y7 := hB7.size
  have l4' := hmc2.lt
  have l5 := hmd2.lt
  have r8 := (hown8.lt gr rfl).1
  have q5 := z5'.out
  have qW := bW.size
  have q3 := hB3.size
  have b87 : Below w8.heap.size w8 w7 := bthen hb7 hb6
  have b47 : Below w4.heap.size w4 w7 := bthen hB7 b5
  have b07 : Below w.heap.size w w7 := bthen hB7 bw5
  have hrg : ∀ i, i < 8 → w8.cell? ⟨gr, i, none⟩ = some (.int .u16 (r.R i)) := by
    intro i hi
    rw [World.ownsRow.cellAt hown8 i (by omega)]
    have : i = 0 ∨ i = 1 ∨ i = 2 ∨ i = 3 ∨ i = 4 ∨ i = 5 ∨ i = 6 ∨ i = 7 := by omega
    rcases this with rfl | rfl | rfl | rfl | rfl | rfl | rfl | rfl <;> rfl
  have hrf : ∀ i, w8.frozen? ⟨gr, i, none⟩ = false := fun i => World.ownsRow.frozenAt hown8 i
  have hrc : 8 ≤ capr := by
    rcases hown8.2 with ⟨_, h⟩ | ⟨g', c', _, e, _, _, h, _⟩
    · omega
    · cases e; omega
  have hh := hB'.out.halt
  refine ⟨g, cb, db, ccap', cap', icap', p', w7.heap.size, gr, capr, gc2, gd2, rfl, ?_⟩
  exact { s := hS.below (balloc b47 _), c := hC.below (balloc b47 _), cc := hcc, i := hI.below (balloc b47 _)
          ia := fun a ha => by have := hpb a ha; omega
          cg := hn1, cd := hn2, g0 := by omega
          q := { m := own_eq (own_new _ _ _) (by simp [cellsQ, hh])
                 r := fun i hi => cell_below (hrg i hi) (balloc b87 _)
                 rf := fun i hi => frozen_below (hrg i hi) (hrf i) (balloc b87 _)
                 rc := hrc, d := hmd2.below (balloc (Below.refl _ _) _)
                 n1 := by omega, n2 := by omega, n3 := by omega, ok := ⟨hB'.out.ok, memL_ok hB'.out.dok⟩ }
          qi := hB'.out.i.below (balloc b07 _)
          qc := (hmc2.below hb7).below (balloc (Below.refl _ _) _)
          far := by omega
          below := balloc b07 _ }

end Go.Proofs.Ytbhkndblolegaaa
