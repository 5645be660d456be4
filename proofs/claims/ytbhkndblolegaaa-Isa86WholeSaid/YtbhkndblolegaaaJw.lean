/- The walk of the law Isa86Whole: whatever comes in, the law returns true, and nothing that was there has changed. -/
import Derived.Test.YtbhkndblolegaaaJa
import Derived.Deep.RegionHeld3
namespace Go.Proofs.Ytbhkndblolegaaa
open Go.RowKit
set_option linter.unusedVariables false
set_option linter.unusedSimpArgs false

theorem insD_same (a b c d : Int) (w : World) : (binOp .eql 52 (.agg #[.int .i64 a, .int .i64 b, .int .i64 c, .int .u16 d]) (.agg #[.int .i64 a, .int .i64 b, .int .i64 c, .int .u16 d])).run Try.prog w = .ok (.bool true) w := by go_simp
set_option maxRecDepth 100000 in
set_option maxHeartbeats 2000000 in
/-- What is not read. -/
theorem whole_not (k : Int) (hk : (k != 0) = true) (p : Option Addr) (n cap : Nat) (hl : (n : Int) ≤ 1000) (w : World)
    (R : ∀ X, Below w.heap.size w X → Calls Try.prog 23 #[.slice p n cap] X fun e w' => e = .returned (.tuple #[.agg #[.int .i64 0, .int .i64 0, .int .i64 0, .int .u16 0], .int .i64 0, .int .i64 k]) ∧ Below X.heap.size X w') :
    Calls Try.prog 5 #[.slice p n cap] w fun e w' => e = .returned (.bool true) ∧ Below w.heap.size w w' := by
  have eqI := insD_same 0 0 0 0
  go_enter Try.func5, Try.ntmps5
  go_wp2_with (first
    | (go_at_call 23; (with_reducible refine (R _ (Below.refl _ _)).mono ?_); rintro e w1 ⟨rfl, hb1⟩; have o1 := own4 (own_new w1 #[.int .i64 0, .int .i64 0, .int .i64 0, .int .u16 0] 52))
    | (go_at_call 22; (with_reducible refine (alive8_any _).mono ?_); rintro e w3 ⟨rfl, hb3⟩))
  go_ret
  exact ⟨rfl, bthen hb3 (balloc hb1 _)⟩

set_option maxRecDepth 100000 in
set_option maxHeartbeats 4000000 in
/-- What is read. -/
theorem whole_do (op d s n : Int) (bs zs : List Int) (hne : bs ≠ []) (hl : (zs.length : Int) ≤ 1000) (hbs : bs = zs.take bs.length) (hlz : (bs.length : Int) ≤ zs.length) (h : PutsV op d s n 0 bs) (b off cap : Nat) (hcap : (zs.length : Int) ≤ cap) (w : World) (hz : SeesB w b off zs)
    (R : ∀ X, Below w.heap.size w X → Calls Try.prog 23 #[.slice (some ⟨b, off, none⟩) zs.length cap] X fun e w' => e = .returned (.tuple #[.agg #[.int .i64 op, .int .i64 d, .int .i64 s, .int .u16 n], .int .i64 (bs.length : Int), .int .i64 0]) ∧ Below X.heap.size X w')
    (RC : ∀ k : Nat, k < bs.length → ∀ X, Below w.heap.size w X → Calls Try.prog 23 #[.slice (some ⟨b, off, none⟩) k cap] X fun e w' => e = .returned (.tuple #[.agg #[.int .i64 0, .int .i64 0, .int .i64 0, .int .u16 0], .int .i64 0, .int .i64 2]) ∧ Below X.heap.size X w') :
    Calls Try.prog 5 #[.slice (some ⟨b, off, none⟩) zs.length cap] w fun e w' => e = .returned (.bool true) ∧ Below w.heap.size w w' := by
  unfold PutsV at h
  obtain ⟨nb, hnb⟩ : ∃ nb, nb = bs.length := ⟨_, rfl⟩
  obtain ⟨nz, hnz⟩ : ∃ nz, nz = zs.length := ⟨_, rfl⟩
  have hRB := fun (g c : Nat) (X : World) (h1 : SeesB X g 0 bs) (h2 : SeesB X b off zs) => rbytes_same g 0 c b off cap bs (zs.take bs.length) X (by omega) (by simp; omega) h1 (h2.take bs.length)
  rw [show decide (bs = zs.take bs.length) = true from decide_eq_true hbs, ← hnb] at hRB
  rw [← hnb] at R RC hlz
  rw [← hnz] at hl hlz hcap R ⊢
  have hcb : (nb : Int) ≤ cap := by omega
  have hnb' := Lib.hid hnb
  have hnz' := Lib.hid hnz
  have hz' := Lib.hid hz
  have RC' := Lib.hid RC
  clear hz hnb hnz hbs RC
  go_enter Try.func5, Try.ntmps5
  go_wp2_with (first
    | (go_at_call 23; (with_reducible refine (R _ (Below.refl _ _)).mono ?_); rintro e w1 ⟨rfl, hb1⟩; have o1 := own4 (own_new w1 #[.int .i64 op, .int .i64 d, .int .i64 s, .int .u16 n] 52); have b1 : Below w.heap.size w (w1.alloc (.cells #[.int .i64 op, .int .i64 d, .int .i64 s, .int .u16 n] 52)) := balloc hb1 _)
    | (go_at_call 24; (with_reducible refine (h _).mono ?_); rintro e w2 ⟨v1, rfl, hr1, hb2⟩; obtain ⟨g1, c1, hv, hg1, hc1, hs1⟩ := rowb_some hr1 hne; rw [← hnb'.out] at hv; subst hv; have b2 := bthen hb2 b1; have hz2 := hz'.out.below b2)
    | (go_at_call 25; (with_reducible refine (hRB g1 c1 w2 hs1 hz2).mono ?_); rintro e w3 ⟨rfl, j, rfl⟩))
  have b3 : Below w.heap.size w (w2.drewN j) := bdrewN b2 _
  have b3' := Lib.hid b3
  generalize w2.drewN j = W3 at *
  clear b3 hz2 hs1 hRB R h hr1
  go_wp2
  have e1 : decide (nz < nb) = false := by simp; omega
  have e2 : decide ((1000 : Int) < (nz : Int)) = false := by simp; omega
  have e3 : decide ((nz : Int) < (nb : Int)) = false := by simp; omega
  (try rw [e2])
  (try simp only [e1, e3])
  clear e1 e2 e3
  go_loopw [8] (fun i wr => ∃ k : Nat, k ≤ nb ∧ i = .int .i64 k ∧ Below w.heap.size w wr) (fun i _ => nb - (intOf i).toNat)
  case atStart => exact ⟨0, Nat.zero_le _, rfl, b3'.out⟩
  case round =>
    obtain ⟨k, hk, rfl, hb⟩ := hrel
    by_cases hk2 : k < nb
    · have hk3 : (k : Int) < nb := by omega
      have hkc : (k : Int) ≤ cap := by omega
      have S := RC'.out k hk2 _ hb
      go_wp2_with (go_at_call 23; (with_reducible refine S.mono ?_); rintro e w5 ⟨rfl, hb5⟩)
      go_roundw
      case rel => exact ⟨k + 1, by omega, by go_num, balloc (bthen hb5 hb) _⟩
      case measure => simp [intOf]; omega
    · obtain rfl : k = nb := by omega
      go_wp2_with (go_at_call 22; (with_reducible refine (alive8_any _).mono ?_); rintro e w6 ⟨rfl, hb6⟩)
      go_ret
      exact ⟨rfl, bthen hb6 hb⟩

/-- A slice of bytes, from any address, within its capacity. -/
def LiesBC (w : World) (v : Value) (zs : List Int) : Prop := ∃ p cap, v = .slice p zs.length cap ∧ (p = none → zs.length = 0 ∧ cap = 0) ∧ zs.length ≤ cap ∧ ∀ a, p = some a → ∀ j, j < zs.length → w.cell? (a.add j) = some (.int .u8 (zs.getD j 0))
theorem toldV_not (k : Int) : toldV (0, 0, 0, 0, 0, k) = .tuple #[.agg #[.int .i64 0, .int .i64 0, .int .i64 0, .int .u16 0], .int .i64 0, .int .i64 k] := rfl
theorem isa86Whole_any (v : Value) (zs : List Int) (hby : Byt zs) (w : World) (h : LiesBC w v zs) :
    Calls Try.prog 5 #[v] w fun e w' => e = .returned (.bool true) ∧ Below w.heap.size w w' := by
  obtain ⟨p, cap, rfl, hp, hcap, hs⟩ := h
  by_cases hl : (zs.length : Int) ≤ 1000
  · have hsees : ∀ X, Below w.heap.size w X → 0 < zs.length → ∃ gb off, p = some ⟨gb, off, none⟩ ∧ SeesB X gb off zs := by
      intro X hX h0
      cases p with
      | none => have := (hp rfl).1; omega
      | some a =>
        have k0 := hs a rfl 0 h0
        have hsp : a.spot = none := by
          simp only [Addr.add, if_true] at k0
          unfold World.cell? at k0
          split at k0
          · split at k0
            · cases k0
            · rename_i q; simpa using q
          · cases k0
        obtain ⟨b, off, spt⟩ := a
        simp only at hsp
        subst hsp
        refine ⟨b, off, rfl, fun j hj => ?_⟩
        have := cell_below (hs _ rfl j hj) hX
        rwa [Addr.add_lit] at this
    have R := fun X (hX : Below w.heap.size w X) => read_any zs hby (by omega) p cap hcap X (hsees X hX)
    obtain ⟨op, d, s, n, k, q, hr⟩ : ∃ op d s n k q, readL zs = (op, d, s, n, k, q) := ⟨_, _, _, _, _, _, rfl⟩
    by_cases hq : q = 0
    · subst hq
      obtain ⟨kk, rfl, k1, k4, kl, n0, n1, hright, hbytes, hcut⟩ := read_whole zs hby op d s n k hr
      obtain ⟨b, off, rfl, hsb⟩ := hsees w (Below.refl _ _) (by omega)
      have hP : PutsV op d s n 0 (bytesL op d s n) := by
        intro w
        have := bytes_any op d s n n0 n1 w
        rw [hright] at this
        exact this
      have hlen : (bytesL op d s n).length = kk := by rw [hbytes]; simp; omega
      rw [hr] at R
      refine whole_do op d s n (bytesL op d s n) zs (by intro e; rw [e] at hlen; simp at hlen; omega) hl (by rw [hlen]; exact hbytes) (by omega) hP b off cap (by omega) w hsb ?_ ?_
      · intro X hX
        have := R X hX
        rw [hlen]
        exact this
      · intro c hc X hX
        have hcb : Byt (zs.take c) := fun x hx => hby x (List.mem_of_mem_take hx)
        have hcl : (zs.take c).length = c := by simp; omega
        have := read_any (zs.take c) hcb (by omega) (some ⟨b, off, none⟩) cap (by omega) X (fun _ => ⟨b, off, rfl, (hsb.below hX).take c⟩)
        rw [hcl] at this
        have hk := hcut c (by omega)
        obtain ⟨kq, hkq⟩ := read_not (zs.take c) (by rw [hk]; decide)
        rw [hkq] at hk this
        have e : kq = 2 := hk
        subst e
        exact this
    · obtain ⟨kq, hkq⟩ := read_not zs (by rw [hr]; exact hq)
      rw [hkq] at hr R
      simp only [Prod.mk.injEq] at hr
      obtain ⟨_, _, _, _, _, rfl⟩ := hr
      exact whole_not kq (by simpa using hq) p zs.length cap hl w (fun X hX => R X hX)
  · have hl2 : (1000 : Int) < zs.length := by omega
    go_enter Try.func5, Try.ntmps5
    go_wp2_with (go_at_call 22; (with_reducible refine (alive8_any _).mono ?_); rintro e w3 ⟨rfl, hb3⟩)
    go_ret
    exact ⟨rfl, hb3⟩

end Go.Proofs.Ytbhkndblolegaaa
