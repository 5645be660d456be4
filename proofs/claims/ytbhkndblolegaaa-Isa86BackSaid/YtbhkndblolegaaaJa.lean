/- isa86.Read of any bytes; isa86.Size of what is not right; pidginlaw08.Back. -/
import Derived.Test.YtbhkndblolegaaaIx
import Derived.Test.YtbhkndblolegaaaJq
import Derived.Test.YtbhkndblolegaaaIap
import Derived.Laws.AppendOwnNone
import Derived.Deep.CutRange
import Derived.Deep.RegionHeld3
namespace Go.Proofs.Ytbhkndblolegaaa
open Go.RowKit
set_option linter.unusedVariables false
set_option linter.unusedSimpArgs false

theorem read_any (bs : List Int) (hby : Byt bs) (hl : bs.length ≤ 2000) (p : Option Addr) (cap : Nat) (hcap : bs.length ≤ cap) (w : World) (h : 0 < bs.length → ∃ gb off, p = some ⟨gb, off, none⟩ ∧ SeesB w gb off bs) :
    Calls Try.prog 23 #[.slice p bs.length cap] w fun e w' => e = .returned (toldV (readL bs)) ∧ Below w.heap.size w w' := by
  match bs, hby, hl, hcap, h with
  | [], _, _, _, _ => exact read_0 p cap w
  | [b0], hby, _, hcap, h =>
    obtain ⟨gb, off, rfl, hs⟩ := h (by simp)
    have b := hby b0 (by simp)
    have c : w.cell? ⟨gb, off, none⟩ = some (.int .u8 b0) := hs 0 (by simp)
    simp at hcap
    exact read_1 gb off cap b0 b.1 b.2 (by omega) w c
  | b0 :: b1 :: r, hby, hl, hcap, h =>
    obtain ⟨gb, off, rfl, hs⟩ := h (by simp)
    exact readk_two gb off cap b0 b1 r hl hcap hby w hs
set_option maxHeartbeats 400000 in
theorem back8_any (a b c d : Int) (w : World) :
    Calls Try.prog 29 #[.agg #[.int .i64 a, .int .i64 b, .int .i64 c, .int .u16 d]] w fun e w' => e = .returned (.agg #[.int .i64 a, .int .i64 b, .int .i64 c, .int .u16 d]) ∧ Below w.heap.size w w' := by
  go_enter Try.func29, Try.ntmps29
  go_wp2
  refine bodyPost_ret ?_ rfl ⟨rfl, ?_⟩
  · simp [results, Try.results29, go_sem]
  · exact balloc (balloc (Below.refl _ _) _) _
/-- Of what is not right: no byte. -/
theorem size86_not (op d s n : Int) (k : Int) (h : PutsV op d s n k []) (w : World) :
    Calls Try.prog 28 #[.agg #[.int .i64 op, .int .i64 d, .int .i64 s, .int .u16 n]] w fun e w' => e = .returned (.int .i64 0) ∧ Below w.heap.size w w' := by
  unfold PutsV at h
  go_enter Try.func28, Try.ntmps28
  go_wp2_with (go_at_call 24; (with_reducible refine (h _).mono ?_); rintro e w1 ⟨v1, rfl, hr1, hb1⟩; obtain rfl : v1 = .slice none 0 0 := (by rcases hr1 with ⟨_, h⟩ | ⟨h, _⟩; exact h; exact absurd rfl h))
  go_ret
  exact ⟨rfl, bthen hb1 (balloc (Below.refl _ _) _)⟩
theorem bytes_not (op d s n : Int) (hk : ¬ rightL (headsL op d s) n = 0) : bytesL op d s n = [] := by
  unfold bytesL
  rw [if_neg hk]

set_option maxRecDepth 100000 in
set_option maxHeartbeats 2000000 in
/-- What is not right. -/
theorem back_not (op d s n : Int) (k : Int) (hk : (k != 0) = true) (h : PutsV op d s n k []) (p : Option Addr) (len cap : Nat) (hl : (len : Int) ≤ 1000) (w : World) :
    Calls Try.prog 8 #[.agg #[.int .i64 op, .int .i64 d, .int .i64 s, .int .u16 n], .slice p len cap] w fun e w' => e = .returned (.bool true) ∧ Below w.heap.size w w' := by
  have hz := size86_not op d s n k h
  unfold PutsV at h
  have o0 := own_new w #[.int .i64 op, .int .i64 d, .int .i64 s, .int .u16 n] 59
  have bW : Below w.heap.size w (w.alloc (.cells #[.int .i64 op, .int .i64 d, .int .i64 s, .int .u16 n] 59)) := balloc (Below.refl _ _) _
  go_enter Try.func8, Try.ntmps8
  go_wp2_with (first
    | (go_at_call 26; (with_reducible refine (own8_any op d s n _).mono ?_); rintro e w1 ⟨rfl, hb1⟩; have o1 := own4 (o0.below hb1))
    | (go_at_call 26; (with_reducible refine (own8_any op d s n _).mono ?_); rintro e w5 ⟨rfl, hb5⟩)
    | (go_at_call 24; (with_reducible refine (h _).mono ?_); rintro e w2 ⟨v1, rfl, hr1, hb2⟩; obtain rfl : v1 = .slice none 0 0 := (by rcases hr1 with ⟨_, h⟩ | ⟨h, _⟩; exact h; exact absurd rfl h); have o2 := own4 ((o0.below hb1).below hb2))
    | (go_at_call 28; (with_reducible refine (hz _).mono ?_); rintro e w4 ⟨rfl, hb4⟩)
    | (go_at_call 22; (with_reducible refine (alive8_any _).mono ?_); rintro e w3 ⟨rfl, hb3⟩))
  go_ret
  exact ⟨rfl, bthen hb3 (bthen hb4 (bthen hb5 (bthen hb2 (bthen hb1 bW))))⟩

theorem lits_oneCell (xs : List Int) : ∀ u ∈ xs.map (Value.int .u8), u.oneCell' = true := by
  intro u hu
  obtain ⟨x, _, rfl⟩ := List.mem_map.1 hu
  rfl
/-- A slice of bytes, from any address. -/
def LiesB8 (w : World) (v : Value) (zs : List Int) : Prop := ∃ p cap, v = .slice p zs.length cap ∧ (p = none → zs.length = 0 ∧ cap = 0) ∧ ∀ a, p = some a → ∀ j, j < zs.length → w.cell? (a.add j) = some (.int .u8 (zs.getD j 0))
theorem bytes_all (op d s n : Int) (n0 : 0 ≤ n) (n1 : n ≤ 65535) (hr : rightL (headsL op d s) n = 0) : Byt (bytesL op d s n) := by
  have hne : (headsL op d s).1 ≠ [] := by intro h; simp [rightL, h] at hr
  have e : bytesL op d s n = (headsL op d s).1 ++ tailB (headsL op d s).2 n := by unfold bytesL; rw [if_pos hr]
  have hby : Byt (tailB (headsL op d s).2 n) := by
    unfold tailB Byt; repeat' split
    all_goals (simp; try omega)
  rw [e]
  intro x hx
  rcases List.mem_append.1 hx with h | h
  · rcases form_cases op d s hne with ⟨a, t, hh, a0, a1, _⟩ | ⟨a, m, t, hh, a0, a1, m0, m1, _⟩
    · rw [hh] at h; simp at h; subst h; exact ⟨a0, a1⟩
    · rw [hh] at h; simp at h; rcases h with rfl | rfl
      · exact ⟨a0, a1⟩
      · exact ⟨m0, m1⟩
  · exact hby x h
theorem sees_news {w : World} {g : Nat} {bs : List Int} (h : SeesB w g 0 bs) : ∀ j u, (bs.map (Value.int .u8))[j]? = some u → w.cell? ((⟨g, 0, none⟩ : Addr).add j) = some u := by
  intro j u hj
  have hjn : j < bs.length := by
    have := (List.getElem?_eq_some_iff.1 hj).1
    simpa using this
  have e : (bs.map (Value.int .u8))[j]? = some (Value.int .u8 (bs.getD j 0)) := by simp [List.getD, hjn]
  rw [e] at hj
  cases hj
  rw [Addr.add_lit]
  exact h j hjn
theorem own_cap {w : World} {base g n m cap : Nat} {xs : List Value} (h : w.ownsRow base 5 1 (.slice (some ⟨g, 0, none⟩) n cap) n xs) (hm : m = n) : m ≤ cap := by
  rcases h.2 with ⟨h0, _⟩ | ⟨g', c', _, e, _, _, h, _⟩
  · cases h0
  · cases e; omega
theorem sees_row {w : World} {base g n cap : Nat} {xs : List Value} {bs : List Int} (h : w.ownsRow base 5 1 (.slice (some ⟨g, 0, none⟩) n cap) n xs) (e : xs = bs.map (Value.int .u8)) : SeesB w g 0 bs := by
  subst e
  have hl := h.1
  intro j hj
  rw [Nat.zero_add, World.ownsRow.cellAt h j (by simp at hl; omega)]
  simp [List.getD, hj]
theorem ins_same (a b c d : Int) (w : World) : (binOp .eql 59 (.agg #[.int .i64 a, .int .i64 b, .int .i64 c, .int .u16 d]) (.agg #[.int .i64 a, .int .i64 b, .int .i64 c, .int .u16 d])).run Try.prog w = .ok (.bool true) w := by go_simp
set_option maxRecDepth 100000 in
set_option maxHeartbeats 4000000 in
/-- What is right is read as it was, whatever is behind it. -/
theorem back_do (op d s n : Int) (bs zs : List Int) (hne : bs ≠ []) (h4 : (bs.length : Int) ≤ 4) (h1 : (1 : Int) ≤ bs.length) (hl : (zs.length : Int) ≤ 1000) (h : PutsV op d s n 0 bs) (hread : readL (bs ++ zs) = (op, d, s, n, (bs.length : Int), 0)) (hby : Byt (bs ++ zs))
    (p : Option Addr) (cap : Nat) (w : World) (hp : p = none → zs.length = 0 ∧ cap = 0) (hz : ∀ a, p = some a → ∀ j, j < zs.length → w.cell? (a.add j) = some (.int .u8 (zs.getD j 0))) :
    Calls Try.prog 8 #[.agg #[.int .i64 op, .int .i64 d, .int .i64 s, .int .u16 n], .slice p zs.length cap] w fun e w' => e = .returned (.bool true) ∧ Below w.heap.size w w' := by
  unfold PutsV at h
  obtain ⟨iu, hiu, hu0, hu1, hu2⟩ := info_parts info_u8
  have o0 := own_new w #[.int .i64 op, .int .i64 d, .int .i64 s, .int .u16 n] 59
  obtain ⟨W, hW⟩ : ∃ W, W = w.alloc (.cells #[.int .i64 op, .int .i64 d, .int .i64 s, .int .u16 n] 59) := ⟨_, rfl⟩
  have bW : Below w.heap.size w W := by rw [hW]; exact balloc (Below.refl _ _) _
  rw [← hW] at o0
  have i0 := own4 o0
  have ltW := o0.lt
  have hzW : ∀ a, p = some a → ∀ X, Below W.heap.size W X → ∀ j u, (zs.map (Value.int .u8))[j]? = some u → X.cell? (a.add j) = some u := by
    intro a ha X hX j u hj
    have hjn : j < zs.length := by
      have := (List.getElem?_eq_some_iff.1 hj).1
      simpa using this
    have e : (zs.map (Value.int .u8))[j]? = some (Value.int .u8 (zs.getD j 0)) := by simp [List.getD, hjn]
    rw [e] at hj
    cases hj
    exact cell_below (cell_below (hz a ha j hjn) bW) hX
  obtain ⟨nb, hnb⟩ : ∃ nb, nb = bs.length := ⟨_, rfl⟩
  obtain ⟨nz, hnz⟩ : ∃ nz, nz = zs.length := ⟨_, rfl⟩
  have hlen : (bs ++ zs).length = nb + nz := by rw [List.length_append, ← hnb, ← hnz]
  have RD := fun g cap (hcap : nb + nz ≤ cap) (X : World) (hs : SeesB X g 0 (bs ++ zs)) => hlen ▸ read_any (bs ++ zs) hby (by omega) (some ⟨g, 0, none⟩) cap (by omega) X (fun _ => ⟨g, 0, rfl, hs⟩)
  rw [hread] at RD
  rw [← hnb] at h4 h1 RD
  rw [← hnz] at hl hp ⊢
  have hnb' := Lib.hid hnb
  have hnz' := Lib.hid hnz
  have hz' := Lib.hid hzW
  have bW' := Lib.hid bW
  have O0 := Lib.hid o0
  clear hz hread hby hzW bW o0 hnb hnz hlen
  go_enter Try.func8, Try.ntmps8
  go_upto_region 1 with (fail)
  rw [← hW]
  clear hW
  simp only [toldV] at RD
  have r7 : ∀ (g1 g2 : Nat) X, Own X g1 #[.int .i64 op, .int .i64 d, .int .i64 s, .int .u16 n] 59 → True := fun _ _ _ _ => trivial
  rcases p with _ | a
  · obtain ⟨rfl, rfl⟩ := hp rfl
    have hz0 : zs = [] := List.eq_nil_of_length_eq_zero hnz'.out.symm
    subst hz0
    simp only [Nat.add_zero, List.append_nil] at RD
    go_upto_region 7 with (first
      | (go_at_call 26; (with_reducible refine (own8_any op d s n _).mono ?_); rintro e w1 ⟨rfl, hb1⟩)
      | (go_at_call 24; (with_reducible refine (h _).mono ?_); rintro e w2 ⟨v1, rfl, hr1, hb2⟩; obtain ⟨g1, c1, hv, hg1, hc1, hs1⟩ := rowb_some hr1 hne; rw [← hnb'.out] at hv; subst hv; have b2 := bthen hb2 hb1)
      | (at_builtin; refine wpList_append_lies _ rfl _ _ 26 rfl w2.heap.size 5 iu (.int .u8 0) 1 1 Try.underlying26 hiu hu0 hu1 hu2 rfl (by decide) (.slice (some ⟨w2.heap.size, 0, none⟩) 0 0) 0 [] rfl (World.ownsRow_made w2 #[] 0 (Nat.le_refl _) (Nat.zero_le _) rfl) ⟨g1, 0, none⟩ nb c1 (bs.map (Value.int .u8)) rfl (by rw [List.length_map, hnb'.out, Nat.mul_one]) (sees_news (hs1.below (balloc (Below.refl _ _) _))) (lits_oneCell bs) (by omega) (by unfold maxLen; omega) (by omega) (by simp) _ rfl ?_; intro g5 cap5 w5 hown5 hgrow5 hat5 hlt5; have hb5 : Below w2.heap.size w2 w5 := (balloc (Below.refl _ _) _).grown hgrow5 (by simp) (by intro q hq; simp [Value.ownBlock] at hq; omega); simp only [Nat.zero_add, List.nil_append] at hown5)
      | (at_builtin; refine wpList_append_own_none rfl _ _ 26 rfl w2.heap.size 5 iu 1 Try.underlying26 hiu (.slice (some ⟨g5, 0, none⟩) nb cap5) nb _ rfl hown5 rfl ?_)
      | (go_at_call 23; (with_reducible refine (RD g5 cap5 (own_cap hown5 rfl) w5 (sees_row hown5 rfl)).mono ?_); rintro e w7 ⟨rfl, hb7⟩; have hB7 : Below W.heap.size W w7 := bthen hb7 (bthen hb5 b2)))
    have o7 := own_new w7 #[.int .i64 op, .int .i64 d, .int .i64 s, .int .u16 n] 52
    have b78 : Below w7.heap.size w7 (w7.alloc (.cells #[.int .i64 op, .int .i64 d, .int .i64 s, .int .u16 n] 52)) := balloc (Below.refl _ _) _
    obtain ⟨W8, hW8⟩ : ∃ W8, W8 = w7.alloc (.cells #[.int .i64 op, .int .i64 d, .int .i64 s, .int .u16 n] 52) := ⟨_, rfl⟩
    rw [← hW8] at o7 b78 ⊢
    clear hW8
    have i8 := own4 (O0.out.below (bthen b78 hB7))
    have j8 := own4 o7
    have b08 : Below w.heap.size w W8 := bthen (bthen b78 hB7) bW'.out
    have l7 : w.heap.size < w7.heap.size := Nat.lt_of_lt_of_le ltW hB7.size
    have eqI := ins_same op d s n
    have B8 : Below W8.heap.size W8 W8.drew := bdrew (Below.refl _ _)
    go_region_held3 (fun X => (X.cell? ⟨w.heap.size, 0, none⟩ = some (.int .i64 op) ∧ X.cell? ⟨w.heap.size, 1, none⟩ = some (.int .i64 d) ∧ X.cell? ⟨w.heap.size, 2, none⟩ = some (.int .i64 s) ∧ X.cell? ⟨w.heap.size, 3, none⟩ = some (.int .u16 n) ∧ X.cell? ⟨w7.heap.size, 0, none⟩ = some (.int .i64 op) ∧ X.cell? ⟨w7.heap.size, 1, none⟩ = some (.int .i64 d) ∧ X.cell? ⟨w7.heap.size, 2, none⟩ = some (.int .i64 s) ∧ X.cell? ⟨w7.heap.size, 3, none⟩ = some (.int .u16 n)) ∧ Below W8.heap.size W8 X)
      ((refine (fun hT => ⟨⟨cell_below i8.1 hT, cell_below i8.2.1 hT, cell_below i8.2.2.1 hT, cell_below i8.2.2.2 hT, cell_below j8.1 hT, cell_below j8.2.1 hT, cell_below j8.2.2.1 hT, cell_below j8.2.2.2 hT⟩, hT⟩) ?_; (repeat (first | with_reducible exact Below.refl _ _ | with_reducible assumption | with_reducible apply balloc | with_reducible apply bdrew | with_reducible apply bdrewN))))
      (first
        | (go_simp; go_at_call 29; (with_reducible refine (back8_any _ _ _ _ _).mono ?_); rintro e wn ⟨rfl, hbn⟩; have hBn : Below W8.heap.size W8 wn := bthen hbn (by assumption))
        | (go_simp; go_at_call 22; (with_reducible refine (alive8_any _).mono ?_); rintro e wm ⟨rfl, hbm⟩; have hBm : Below W8.heap.size W8 wm := bthen hbm (by assumption)))
    go_wp2
    go_ret
    exact ⟨rfl, bthen hBm b08⟩
  · have nza := hz'.out a rfl
    go_upto_region 7 with (first
      | (go_at_call 26; (with_reducible refine (own8_any op d s n _).mono ?_); rintro e w1 ⟨rfl, hb1⟩)
      | (go_at_call 24; (with_reducible refine (h _).mono ?_); rintro e w2 ⟨v1, rfl, hr1, hb2⟩; obtain ⟨g1, c1, hv, hg1, hc1, hs1⟩ := rowb_some hr1 hne; rw [← hnb'.out] at hv; subst hv; have b2 := bthen hb2 hb1)
      | (at_builtin; refine wpList_append_lies _ rfl _ _ 26 rfl w2.heap.size 5 iu (.int .u8 0) 1 1 Try.underlying26 hiu hu0 hu1 hu2 rfl (by decide) (.slice (some ⟨w2.heap.size, 0, none⟩) 0 0) 0 [] rfl (World.ownsRow_made w2 #[] 0 (Nat.le_refl _) (Nat.zero_le _) rfl) ⟨g1, 0, none⟩ nb c1 (bs.map (Value.int .u8)) rfl (by rw [List.length_map, hnb'.out, Nat.mul_one]) (sees_news (hs1.below (balloc (Below.refl _ _) _))) (lits_oneCell bs) (by omega) (by unfold maxLen; omega) (by omega) (by simp) _ rfl ?_; intro g5 cap5 w5 hown5 hgrow5 hat5 hlt5; have hb5 : Below w2.heap.size w2 w5 := (balloc (Below.refl _ _) _).grown hgrow5 (by simp) (by intro q hq; simp [Value.ownBlock] at hq; omega); simp only [Nat.zero_add, List.nil_append] at hown5)
      | (at_builtin; refine wpList_append_own _ rfl _ _ 26 rfl w2.heap.size 5 iu (.int .u8 0) 1 1 Try.underlying26 hiu hu0 hu1 hu2 rfl (by decide) (.slice (some ⟨g5, 0, none⟩) nb cap5) nb _ rfl hown5 a nz cap (zs.map (Value.int .u8)) rfl (by rw [List.length_map, hnz'.out, Nat.mul_one]) (nza w5 (bthen hb5 b2)) (lits_oneCell zs) (by unfold maxLen; omega) (by omega) hb5.size ?_; intro v6 w6 hown6 hgrow6 _; have hb6 : Below w2.heap.size w2 w6 := hb5.grown hgrow6 hb5.size (by intro q hq; exact (hown5.lt q hq).1); obtain ⟨g6, cap6, rfl, hg6, hl6⟩ := hown6.form (by omega))
      | (go_at_call 23; (with_reducible refine (RD g6 cap6 (own_cap hown6 rfl) w6 (sees_row hown6 (by rw [List.map_append]))).mono ?_); rintro e w7 ⟨rfl, hb7⟩; have hB7 : Below W.heap.size W w7 := bthen hb7 (bthen hb6 b2)))
    have o7 := own_new w7 #[.int .i64 op, .int .i64 d, .int .i64 s, .int .u16 n] 52
    have b78 : Below w7.heap.size w7 (w7.alloc (.cells #[.int .i64 op, .int .i64 d, .int .i64 s, .int .u16 n] 52)) := balloc (Below.refl _ _) _
    obtain ⟨W8, hW8⟩ : ∃ W8, W8 = w7.alloc (.cells #[.int .i64 op, .int .i64 d, .int .i64 s, .int .u16 n] 52) := ⟨_, rfl⟩
    rw [← hW8] at o7 b78 ⊢
    clear hW8
    have i8 := own4 (O0.out.below (bthen b78 hB7))
    have j8 := own4 o7
    have b08 : Below w.heap.size w W8 := bthen (bthen b78 hB7) bW'.out
    have l7 : w.heap.size < w7.heap.size := Nat.lt_of_lt_of_le ltW hB7.size
    have eqI := ins_same op d s n
    have B8 : Below W8.heap.size W8 W8.drew := bdrew (Below.refl _ _)
    go_region_held3 (fun X => (X.cell? ⟨w.heap.size, 0, none⟩ = some (.int .i64 op) ∧ X.cell? ⟨w.heap.size, 1, none⟩ = some (.int .i64 d) ∧ X.cell? ⟨w.heap.size, 2, none⟩ = some (.int .i64 s) ∧ X.cell? ⟨w.heap.size, 3, none⟩ = some (.int .u16 n) ∧ X.cell? ⟨w7.heap.size, 0, none⟩ = some (.int .i64 op) ∧ X.cell? ⟨w7.heap.size, 1, none⟩ = some (.int .i64 d) ∧ X.cell? ⟨w7.heap.size, 2, none⟩ = some (.int .i64 s) ∧ X.cell? ⟨w7.heap.size, 3, none⟩ = some (.int .u16 n)) ∧ Below W8.heap.size W8 X)
      ((refine (fun hT => ⟨⟨cell_below i8.1 hT, cell_below i8.2.1 hT, cell_below i8.2.2.1 hT, cell_below i8.2.2.2 hT, cell_below j8.1 hT, cell_below j8.2.1 hT, cell_below j8.2.2.1 hT, cell_below j8.2.2.2 hT⟩, hT⟩) ?_; (repeat (first | with_reducible exact Below.refl _ _ | with_reducible assumption | with_reducible apply balloc | with_reducible apply bdrew | with_reducible apply bdrewN))))
      (first
        | (go_simp; go_at_call 29; (with_reducible refine (back8_any _ _ _ _ _).mono ?_); rintro e wn ⟨rfl, hbn⟩; have hBn : Below W8.heap.size W8 wn := bthen hbn (by assumption))
        | (go_simp; go_at_call 22; (with_reducible refine (alive8_any _).mono ?_); rintro e wm ⟨rfl, hbm⟩; have hBm : Below W8.heap.size W8 wm := bthen hbm (by assumption)))
    go_wp2
    go_ret
    exact ⟨rfl, bthen hBm b08⟩

/-- What was put is read as it was, whatever is behind it. -/
theorem isa86Back_any (op d s n : Int) (v : Value) (zs : List Int) (hz : Byt zs) (n0 : 0 ≤ n) (n1 : n ≤ 65535) (w : World) (h : LiesB8 w v zs) :
    Calls Try.prog 8 #[.agg #[.int .i64 op, .int .i64 d, .int .i64 s, .int .u16 n], v] w fun e w' => e = .returned (.bool true) ∧ Below w.heap.size w w' := by
  obtain ⟨p, cap, rfl, hp, hs⟩ := h
  by_cases hl : (zs.length : Int) ≤ 1000
  · have h1 : PutsV op d s n (rightL (headsL op d s) n) (bytesL op d s n) := fun w => bytes_any op d s n n0 n1 w
    by_cases k1 : rightL (headsL op d s) n = 0
    · have b1 := bytes_byt op d s n n0 n1 k1
      obtain ⟨hr, h2, h3⟩ := read_back op d s n n0 n1 k1 zs hz
      rw [k1] at h1
      refine back_do op d s n (bytesL op d s n) zs b1.1 (by omega) (by omega) hl h1 hr ?_ p cap w hp hs
      intro x hx
      rcases List.mem_append.1 hx with hx | hx
      · exact bytes_all op d s n n0 n1 k1 x hx
      · exact hz x hx
    · rw [bytes_not op d s n k1] at h1
      exact back_not op d s n _ (by simpa using k1) h1 p zs.length cap hl w
  · have hl2 : (1000 : Int) < zs.length := by omega
    have bW : Below w.heap.size w (w.alloc (.cells #[.int .i64 op, .int .i64 d, .int .i64 s, .int .u16 n] 59)) := balloc (Below.refl _ _) _
    go_enter Try.func8, Try.ntmps8
    go_wp2_with (go_at_call 22; (with_reducible refine (alive8_any _).mono ?_); rintro e w3 ⟨rfl, hb3⟩)
    go_ret
    exact ⟨rfl, bthen hb3 bW⟩

end Go.Proofs.Ytbhkndblolegaaa
