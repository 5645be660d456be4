/- The walk of pidginlaw11.with: a start, with bytes at its place. -/
import Derived.Test.YtbhkndblolegaaaDc
import Derived.Deep.AppendLies
import Derived.Deep.RegionHeld3
import Derived.Deep.CutRange
import Derived.Laws.AppendOwnNone
import Derived.Laws.CopyOwn
namespace Go.Proofs.Ytbhkndblolegaaa
open Go.RowKit
set_option linter.unusedVariables false
set_option linter.unusedSimpArgs false

/-- The cells of a start. -/
def cellsT (r : Rg) (vi vc vd : Value) : Array Value :=
  #[.int .u16 (r.R 0), .int .u16 (r.R 1), .int .u16 (r.R 2), .int .u16 (r.R 3), .int .u16 (r.R 4), .int .u16 (r.R 5), .int .u16 (r.R 6), .int .u16 (r.R 7),
    .bool r.F.s, .bool r.F.z, .bool r.F.a, .bool r.F.p, .bool r.F.c, .int .u16 r.ip, .bool r.ie, vi, vc, vd]
def cellsP (l : Plc) : List Value := l.flatMap fun p => [.int .u16 p.1, .int .u8 p.2]
theorem cellsP_len (l : Plc) : (cellsP l).length = l.length * 2 := by
  induction l with
  | nil => rfl
  | cons a l ih => simp [cellsP] at ih ⊢; omega
theorem cellsP_snoc (l : Plc) (p : Int × Int) : cellsP (l ++ [p]) = cellsP l ++ [.int .u16 p.1, .int .u8 p.2] := by simp [cellsP]
theorem cellsP_at (l : Plc) (j : Nat) (hj : j < l.length) : (cellsP l)[j * 2]? = some (.int .u16 (l.getD j (0, 0)).1) ∧ (cellsP l)[j * 2 + 1]? = some (.int .u8 (l.getD j (0, 0)).2) := by
  induction l generalizing j with
  | nil => simp at hj
  | cons a l ih =>
    cases j with
    | zero => simp [cellsP]
    | succ j =>
      have := ih j (by simpa using hj)
      have e1 : (j + 1) * 2 = j * 2 + 2 := by omega
      have e2 : (j + 1) * 2 + 1 = j * 2 + 1 + 2 := by omega
      rw [e2, e1]
      simpa [cellsP] using this
theorem news_sees {w : World} {p : Option Addr} {l : Plc} (h : 0 < l.length → ∃ b off, p = some ⟨b, off, none⟩ ∧ SeesP w b off l) (a : Addr) (ha : p = some a) : ∀ j u, (cellsP l)[j]? = some u → w.cell? (a.add j) = some u := by
  intro j u hj
  have hlt : j < l.length * 2 := by
    have := (List.getElem?_eq_some_iff.1 hj).1
    rwa [cellsP_len] at this
  obtain ⟨b, off, he, hs⟩ := h (by omega)
  rw [ha] at he
  cases he
  rw [Addr.add_lit]
  have hk := hs (j / 2) (by omega)
  have hc := cellsP_at l (j / 2) (by omega)
  rcases Nat.mod_two_eq_zero_or_one j with e | e
  · have e2 : j / 2 * 2 = j := by omega
    rw [e2] at hk hc
    rw [hk.1, ← hc.1]; exact hj
  · have e2 : j / 2 * 2 + 1 = j := by omega
    rw [Nat.add_assoc, e2] at hk
    rw [e2] at hc
    rw [hk.2, ← hc.2]; exact hj
theorem cellsP_one (l : Plc) : ∀ u ∈ cellsP l, u.oneCell' = true := by
  intro u hu
  simp only [cellsP, List.mem_flatMap] at hu
  obtain ⟨p, _, hp⟩ := hu
  simp at hp
  rcases hp with rfl | rfl <;> rfl
theorem infoByte : (Try.prog.info? 85).map (fun i => (i.zero, i.size, i.bytes)) = some (some (.agg #[.int .u16 0, .int .u8 0]), 2, 4) := by kernel_rfl
theorem cellsT_one (r : Rg) {vi vc vd : Value} (h1 : vi.oneCell' = true) (h2 : vc.oneCell' = true) (h3 : vd.oneCell' = true) : (cellsT r vi vc vd).all (·.oneCell') = true := by
  unfold cellsT
  rw [← Array.all_toList]
  simp only [List.all_cons, List.all_nil, h1, h2, h3]
  rfl
theorem cells18T {w : World} {g : Nat} {r : Rg} {vi vc vd : Value} (h : Own w g (cellsT r vi vc vd) 29) :
    w.cell? ⟨g, 0, none⟩ = some (.int .u16 (r.R 0)) ∧ w.cell? ⟨g, 1, none⟩ = some (.int .u16 (r.R 1)) ∧ w.cell? ⟨g, 2, none⟩ = some (.int .u16 (r.R 2)) ∧ w.cell? ⟨g, 3, none⟩ = some (.int .u16 (r.R 3)) ∧ w.cell? ⟨g, 4, none⟩ = some (.int .u16 (r.R 4)) ∧ w.cell? ⟨g, 5, none⟩ = some (.int .u16 (r.R 5)) ∧ w.cell? ⟨g, 6, none⟩ = some (.int .u16 (r.R 6)) ∧ w.cell? ⟨g, 7, none⟩ = some (.int .u16 (r.R 7)) ∧ w.cell? ⟨g, 8, none⟩ = some (.bool r.F.s) ∧ w.cell? ⟨g, 9, none⟩ = some (.bool r.F.z) ∧ w.cell? ⟨g, 10, none⟩ = some (.bool r.F.a) ∧ w.cell? ⟨g, 11, none⟩ = some (.bool r.F.p) ∧ w.cell? ⟨g, 12, none⟩ = some (.bool r.F.c) ∧ w.cell? ⟨g, 13, none⟩ = some (.int .u16 r.ip) ∧ w.cell? ⟨g, 14, none⟩ = some (.bool r.ie) ∧ w.cell? ⟨g, 15, none⟩ = some vi ∧ w.cell? ⟨g, 16, none⟩ = some vc ∧ w.cell? ⟨g, 17, none⟩ = some vd :=
  ⟨h.cell 0, h.cell 1, h.cell 2, h.cell 3, h.cell 4, h.cell 5, h.cell 6, h.cell 7, h.cell 8, h.cell 9, h.cell 10, h.cell 11, h.cell 12, h.cell 13, h.cell 14, h.cell 15, h.cell 16, h.cell 17⟩
theorem zz_cells {w : World} {g : Nat} {zz : Array Value} (h : Own w g zz 29) (e : zz = #[.int .u16 0, .int .u16 0, .int .u16 0, .int .u16 0, .int .u16 0, .int .u16 0, .int .u16 0, .int .u16 0, .bool false, .bool false, .bool false, .bool false, .bool false, .int .u16 0, .bool false, .slice none 0 0, .slice none 0 0, .slice none 0 0]) :
    w.cell? ⟨g, 0, none⟩ = some (.int .u16 0) ∧ w.cell? ⟨g, 1, none⟩ = some (.int .u16 0) ∧ w.cell? ⟨g, 2, none⟩ = some (.int .u16 0) ∧ w.cell? ⟨g, 3, none⟩ = some (.int .u16 0) ∧ w.cell? ⟨g, 4, none⟩ = some (.int .u16 0) ∧ w.cell? ⟨g, 5, none⟩ = some (.int .u16 0) ∧ w.cell? ⟨g, 6, none⟩ = some (.int .u16 0) ∧ w.cell? ⟨g, 7, none⟩ = some (.int .u16 0) ∧ w.cell? ⟨g, 8, none⟩ = some (.bool false) ∧ w.cell? ⟨g, 9, none⟩ = some (.bool false) ∧ w.cell? ⟨g, 10, none⟩ = some (.bool false) ∧ w.cell? ⟨g, 11, none⟩ = some (.bool false) ∧ w.cell? ⟨g, 12, none⟩ = some (.bool false) ∧ w.cell? ⟨g, 13, none⟩ = some (.int .u16 0) ∧ w.cell? ⟨g, 14, none⟩ = some (.bool false) ∧ w.cell? ⟨g, 15, none⟩ = some (.slice none 0 0) ∧ w.cell? ⟨g, 16, none⟩ = some (.slice none 0 0) ∧ w.cell? ⟨g, 17, none⟩ = some (.slice none 0 0) := by
  subst e
  exact ⟨h.cell 0, h.cell 1, h.cell 2, h.cell 3, h.cell 4, h.cell 5, h.cell 6, h.cell 7, h.cell 8, h.cell 9, h.cell 10, h.cell 11, h.cell 12, h.cell 13, h.cell 14, h.cell 15, h.cell 16, h.cell 17⟩
theorem slice_of {w : World} {base n : Nat} {e : TypeId} {v : Value} {l : Plc} (h : w.ownsRow base e 2 v n (cellsP l)) (hl : l.length = n) :
    ∃ p cap, v = .slice p n cap ∧ (p = none → n = 0 ∧ cap = 0) ∧ (0 < n → ∃ b, p = some ⟨b, 0, none⟩ ∧ base ≤ b ∧ SeesP w b 0 l) := by
  rcases h.2 with ⟨rfl, rfl⟩ | ⟨g, cap, cur, rfl, hg, hh, hn, hm, hs, ht⟩
  · exact ⟨none, 0, rfl, fun _ => ⟨rfl, rfl⟩, fun q => absurd q (Nat.lt_irrefl 0)⟩
  · refine ⟨some ⟨g, 0, none⟩, cap, rfl, (fun q => by cases q), fun _ => ⟨g, rfl, hg, fun j hj => ?_⟩⟩
    have k := cellsP_at l j hj
    rw [Nat.zero_add, World.ownsRow.cellAt h _ (by omega), World.ownsRow.cellAt h _ (by omega)]
    exact k

set_option maxRecDepth 100000 in
set_option maxHeartbeats 2000000 in
theorem with_any (r : Rg) (hr : r.Ok) (vi vd : Value) (hvi : vi.oneCell' = true) (hvd : vd.oneCell' = true) (vc vb : Value) (l : Plc) (bs : List Int) (hl : l.length ≤ 1000) (hb : bs.length ≤ 1000) (w : World) (hc : LiesP w vc l) (hv : LiesB w vb bs) :
    Calls Try.prog 18 #[.agg (cellsT r vi vc vd), vb] w fun e w' => ∃ vc', e = .returned (.agg (cellsT r vi vc' vd)) ∧ LiesP w' vc' (withL r.ip bs l) ∧ Below w.heap.size w w' := by
  have hc' := Lib.hid hc
  obtain ⟨p, cap, rfl, hpc, hc⟩ := hc
  obtain ⟨pb, capb, rfl, hpn, hv⟩ := hv
  obtain ⟨i0, hi, hz0, hz1, hz2⟩ := info_parts infoByte
  have hll : (l.length : Int) ≤ 1000 := by omega
  unfold cellsT
  go_enter Try.func18, Try.ntmps18
  go_upto_region 1 with (fail)
  obtain ⟨zz, hzz⟩ : ∃ zz : Array Value, zz = #[.int .u16 0, .int .u16 0, .int .u16 0, .int .u16 0, .int .u16 0, .int .u16 0, .int .u16 0, .int .u16 0, .bool false, .bool false, .bool false, .bool false, .bool false, .int .u16 0, .bool false, .slice none 0 0, .slice none 0 0, .slice none 0 0] := ⟨_, rfl⟩
  obtain ⟨W, hW⟩ : ∃ W, W = (w.alloc (.cells (cellsT r vi (.slice p l.length cap) vd) 29)).alloc (.cells zz 29) := ⟨_, rfl⟩
  have OB : Own W w.heap.size (cellsT r vi (.slice p l.length cap) vd) 29 := by rw [hW]; exact (own_new _ _ _).alloc _
  have OR : Own W (w.heap.size + 1) zz 29 := by
    rw [hW]
    have := own_new (w.alloc (.cells (cellsT r vi (.slice p l.length cap) vd) 29)) zz 29
    simpa using this
  have bW : Below w.heap.size w W := by rw [hW]; exact balloc (balloc (Below.refl _ _) _) _
  have sW : W.heap.size = w.heap.size + 2 := by rw [hW]; simp
  unfold cellsT at hW
  rw [hzz] at hW
  rw [← hW]
  have hzz' := Lib.hid hzz
  clear hW hzz
  have c15 : W.cell? ⟨w.heap.size, 16, none⟩ = some (.slice p l.length cap) := OB.cell 16
  have OB' := Lib.hid OB
  have OR' := Lib.hid OR
  have hcW : ∀ a, p = some a → ∀ j u, (cellsP l)[j]? = some u → W.cell? (a.add j) = some u := fun a ha j u hj => cell_below (news_sees hc a ha j u hj) bW
  have hb' := Lib.hid bW
  have sW' := Lib.hid sW
  have gW : w.heap.size + 2 ≤ W.heap.size := by omega
  have gW0 : w.heap.size < W.heap.size := by omega
  have gW1 : w.heap.size + 1 < W.heap.size := by omega
  clear OB OR bW hc sW
  generalize Value.agg #[.int .u16 (r.R 0), .int .u16 (r.R 1), .int .u16 (r.R 2), .int .u16 (r.R 3), .int .u16 (r.R 4), .int .u16 (r.R 5), .int .u16 (r.R 6), .int .u16 (r.R 7), .bool r.F.s, .bool r.F.z, .bool r.F.a, .bool r.F.p, .bool r.F.c, .int .u16 r.ip, .bool r.ie, vi, .slice p l.length cap, vd] = va
  go_cut [5] from 7 to 10 (fun v wx => wx.ownsRow (w.heap.size + 2) 85 2 v l.length (cellsP l) ∧ Below W.heap.size W wx)
  case first =>
    clear hc'
    rcases p with _ | a
    · obtain ⟨l0, rfl⟩ := hpc rfl
      have hnil : l = [] := List.eq_nil_of_length_eq_zero l0
      rw [l0] at c15
      go_wp2_with (at_builtin; refine wpList_append_own_none rfl _ _ 27 rfl (w.heap.size + 2) 85 i0 2 Try.underlying27 hi _ _ _ rfl (World.ownsRow_made W #[] 0 gW (Nat.zero_le _) rfl) rfl ?_)
      go_meet
      rw [hnil]
      exact ⟨World.ownsRow_made W #[] 0 gW (Nat.zero_le _) rfl, balloc (Below.refl _ _) _⟩
    · go_wp2_with (at_builtin; refine wpList_append_own _ rfl _ _ 27 rfl (w.heap.size + 2) 85 i0 (.agg #[.int .u16 0, .int .u8 0]) 2 4 Try.underlying27 hi hz0 hz1 hz2 rfl (by decide) _ _ _ rfl (World.ownsRow_made W #[] 0 gW (Nat.zero_le _) rfl) a l.length cap (cellsP l) rfl ?qc1 ?qc2 ?qc3 ?qc4 ?qc5 ?qc6 ?_)
      case qc1 => exact cellsP_len l
      case qc2 => exact fun j u hj => Lib.cell?_alloc_some _ (hcW a rfl j u hj)
      case qc3 => exact cellsP_one l
      case qc4 => unfold maxLen; omega
      case qc5 => omega
      case qc6 => simp; omega
      intro v' w1 hown hgrow hnil
      have hb1 : Below W.heap.size W w1 := ((Below.refl _ W).alloc (Nat.le_refl _) _).grown hgrow (by simp) (by intro k hk; simp [Value.ownBlock] at hk; omega)
      have hown' := Lib.hid hown
      clear hown hgrow hnil
      go_wp2
      go_meet
      exact ⟨by simpa using hown'.out, hb1⟩
  case rest =>
    obtain ⟨hown, hb1⟩ := hcut
    obtain ⟨n, hn⟩ : ∃ n, n = bs.length := ⟨_, rfl⟩
    have hn' := Lib.hid hn
    have hnn : (n : Int) ≤ 1000 := by omega
    rw [← hn] at hpn ⊢
    have hv' := Lib.hid hv
    clear hv hn
    have b0 := hr.ip0
    have b1 := hr.ip1
    go_wp2
    go_loopw [5, 6] (fun v i wr => ∃ k : Nat, k ≤ n ∧ i = .int .i64 k ∧ wr.ownsRow (w.heap.size + 2) 85 2 v (l.length + k) (cellsP (withK r.ip bs l k)) ∧ Below W.heap.size W wr) (fun _ i _ => n - (intOf i).toNat)
    case atStart => exact ⟨0, Nat.zero_le _, rfl, hown, hb1⟩
    case round =>
      obtain ⟨k, hk, rfl, hownk, hbk⟩ := hrel
      by_cases hk2 : k < n
      · rcases pb with _ | a
        · have := (hpn rfl).1; omega
        have hkb : k < bs.length := by have := hn'.out; omega
        have cb := cell_below (hv'.out a rfl k hkb) hb'.out
        have cip : W.cell? ⟨w.heap.size, 13, none⟩ = some (.int .u16 r.ip) := OB'.out.cell 13
        have hw1 : IntKind.u16.wrap (k : Int) = k := by simp [IntKind.wrap, IntKind.bits, IntKind.signed]; omega
        have hw2 : IntKind.u16.wrap (r.ip + (k : Int)) = (r.ip + (k : Int)) % 65536 := by simp [IntKind.wrap, IntKind.bits, IntKind.signed]
        generalize hy : bs.getD k 0 = y at cb
        have hy' := Lib.hid hy
        clear hy
        obtain ⟨xs, hxs⟩ : ∃ xs, xs = cellsP (withK r.ip bs l k) := ⟨_, rfl⟩
        rw [← hxs] at hownk
        have hxs' := Lib.hid hxs
        clear hxs hown hb1
        have szW := hbk.size
        go_wp2
        go_region_held3 (fun X => (X.cell? ⟨w.heap.size, 13, none⟩ = some (.int .u16 r.ip) ∧ X.cell? (a.add k) = some (.int .u8 y)) ∧ Below W.heap.size W X)
          ((refine (fun hT => ⟨⟨cell_below cip hT, cell_below cb hT⟩, hT⟩) ?_; (repeat (first | with_reducible assumption | with_reducible apply bdrew | with_reducible apply balloc))))
          (first
            | (refine step_append_lies _ rfl (.tmp 17) (.tmp 28) 27 rfl (w.heap.size + 2) 85 i0 (.agg #[.int .u16 0, .int .u8 0]) 2 4 Try.underlying27 hi hz0 hz1 hz2 rfl (by decide) _ (l.length + k) xs (by simp [Act.eval, Act.put]) (hownk.drew.alloc _) ⟨wr.heap.size, 0, none⟩ 1 1 [.int .u16 ((r.ip + (k : Int)) % 65536), .int .u8 y] (by simp [Act.eval, Act.put]) rfl (World.news_of_block (own_new wr.drew _ _)) (by intro u hu; simp at hu; rcases hu with rfl | rfl <;> rfl) (by omega) (by unfold maxLen; omega) (by omega) (by simp; omega) _ rfl ?_; intro g2 cap2 w3 hown3 hgrow hat3 hlt3; have hT3 : Below W.heap.size W w3 := (balloc (bdrew hbk) _).grown hgrow (by simp; omega) (by intro q hq; have := (hownk.lt q hq).1; have := sW'.out; omega)))
        have hrel3 : w3.ownsRow (w.heap.size + 2) 85 2 (.slice (some ⟨g2, 0, none⟩) (l.length + k + 1) cap2) (l.length + (k + 1)) (cellsP (withK r.ip bs l (k + 1))) := by
          have e : cellsP (withK r.ip bs l (k + 1)) = xs ++ [.int .u16 ((r.ip + (k : Int)) % 65536), .int .u8 y] := by
            rw [hxs'.out, ← hy'.out, withK, cellsP_snoc]
          rw [e]
          exact hown3
        clear hown3 hgrow
        go_wp2
        go_roundw
        case rel => exact ⟨k + 1, by omega, by go_num, hrel3, hT3⟩
        case measure => simp [intOf]; omega
      · obtain rfl : k = n := by omega
        have hwl : withK r.ip bs l k = withL r.ip bs l := by rw [hn'.out]; rfl
        rw [hwl] at hownk
        have hlen : (withL r.ip bs l).length = l.length + k := by rw [← hwl, withK_len]
        obtain ⟨pv, cpv, rfl, hpv, hsv⟩ := slice_of hownk hlen
        have QB := OB'.out.below hbk
        have QR := OR'.out.below hbk
        have cB : wr.cell? ⟨w.heap.size, 16, none⟩ = some (.slice p l.length cap) := QB.cell 16
        have fB := QB.frozen 16
        have lB := QB.lt
        have QB2 := Lib.hid (own_eq (QB.set 16 (.slice pv (l.length + k) cpv)) (cs' := cellsT r vi (.slice pv (l.length + k) cpv) vd) (by simp [cellsT]))
        have QR2 := Lib.hid (QR.setOther (a := ⟨w.heap.size, 16, none⟩) (.slice pv (l.length + k) cpv) (by simp))
        have bb : Below w.heap.size w wr := bthen hbk hb'.out
        have sv2 := Lib.hid hsv
        clear hownk hsv QB QR
        go_upto_region 7 with (fail)
        have bb3 : Below w.heap.size w (wr.setCell ⟨w.heap.size, 16, none⟩ (.slice pv (l.length + k) cpv)) := bset (Nat.le_refl _) bb
        have sv3 : 0 < l.length + k → ∃ b, pv = some ⟨b, 0, none⟩ ∧ w.heap.size + 2 ≤ b ∧ SeesP (wr.setCell ⟨w.heap.size, 16, none⟩ (.slice pv (l.length + k) cpv)) b 0 (withL r.ip bs l) := by
          intro h0
          obtain ⟨b, hb1, hb2, hb3⟩ := sv2.out h0
          refine ⟨b, hb1, hb2, fun j hj => ?_⟩
          have e := Below.heap_setCell wr ⟨w.heap.size, 16, none⟩ (.slice pv (l.length + k) cpv) b (by simp; omega)
          have := hb3 j hj
          simp only [World.cell?] at this ⊢
          rw [e]; exact this
        have sv4 := Lib.hid sv3
        clear sv3 sv2 cB fB lB bb
        generalize wr.setCell ⟨w.heap.size, 16, none⟩ (.slice pv (l.length + k) cpv) = W3 at *
        obtain ⟨cs, hcs⟩ : ∃ cs, cs = cellsT r vi (.slice pv (l.length + k) cpv) vd := ⟨_, rfl⟩
        have hcs1 : cs.size = 18 := by rw [hcs]; rfl
        have hcs2 : cs.all (·.oneCell') = true := by rw [hcs]; exact cellsT_one r hvi rfl hvd
        have hzs : zz.size = 18 := by rw [hzz'.out]; rfl
        rw [← hcs] at QB2
        have hcs' := Lib.hid hcs
        clear hcs
        have hsz : (Try.prog.info? 29).map (·.size) = some 18 := by kernel_rfl
        have hsz1 : (Try.prog.info? 29).map (·.size) = some cs.size := by rw [hcs1]; exact hsz
        go_wp2_with (first
          | (refine wpList_load_row rfl 29 (.tmp 2) rfl w.heap.size rfl 29 cs (0, 0) _ QB2.out Try.underlying29 rfl hsz1 ?_)
          | (refine wpList_store_row rfl 29 (.tmp 4) (.tmp 32) rfl (w.heap.size + 1) cs rfl rfl 29 zz QR2.out hsz1 (hzs.trans hcs1.symm) hcs2 ?_))
        refine bodyPost_ret (results_cell_row Try.results18 _ _ (w.heap.size + 1) 29 cs (0, 0) _ rfl (setRow_heap W3 _ _ cs _ _ QR2.out) Try.underlying29 rfl hsz1) rfl ?_
        refine ⟨.slice pv (l.length + k) cpv, by rw [hcs'.out]; rfl, ⟨pv, cpv, by rw [hlen], (fun q => by rw [hlen]; exact hpv q), fun h0 => ?_⟩, below_setRow bb3 (by omega) cs⟩
        obtain ⟨b, hb1, hb2, hb3⟩ := sv4.out (by rw [hlen] at h0; exact h0)
        refine ⟨b, 0, hb1, fun j hj => ?_⟩
        have := hb3 j hj
        rw [cell_setRow_other _ _ _ _ (by show ¬ b = w.heap.size + 1; omega), cell_setRow_other _ _ _ _ (by show ¬ b = w.heap.size + 1; omega)]
        exact this

end Go.Proofs.Ytbhkndblolegaaa
