/- The walk of the law Isa86Apart: whatever comes in, the law returns true. -/
import Derived.Test.YtbhkndblolegaaaIv
import Derived.Test.YtbhkndblolegaaaIl
import Derived.Deep.RegionHeld3
namespace Go.Proofs.Ytbhkndblolegaaa
open Go.RowKit
set_option linter.unusedVariables false
set_option linter.unusedSimpArgs false

theorem own8_any (a b c d : Int) (w : World) :
    Calls Try.prog 26 #[.agg #[.int .i64 a, .int .i64 b, .int .i64 c, .int .u16 d]] w fun e w' => e = .returned (.agg #[.int .i64 a, .int .i64 b, .int .i64 c, .int .u16 d]) ∧ Below w.heap.size w w' := by
  go_enter Try.func26, Try.ntmps26
  go_wp2
  refine bodyPost_ret ?_ rfl ⟨rfl, ?_⟩
  · simp [results, Try.results26, go_sem]
  · exact balloc (balloc (Below.refl _ _) _) _
def PutsV (op d s n k : Int) (bs : List Int) : Prop := ∀ w, Calls Try.prog 24 #[.agg #[.int .i64 op, .int .i64 d, .int .i64 s, .int .u16 n]] w fun e w' =>
      ∃ v, e = .returned (.tuple #[v, .int .i64 k]) ∧ RowB w' w.heap.size v bs ∧ Below w.heap.size w w'

theorem ins2 (w : World) (a b c d a2 b2 c2 d2 : Value) (t : TypeId) :
    Own ((w.alloc (.cells #[a, b, c, d] t)).alloc (.cells #[a2, b2, c2, d2] t)) w.heap.size #[a, b, c, d] t ∧ Own ((w.alloc (.cells #[a, b, c, d] t)).alloc (.cells #[a2, b2, c2, d2] t)) (w.heap.size + 1) #[a2, b2, c2, d2] t := by
  have h2 := own_new (w.alloc (.cells #[a, b, c, d] t)) #[a2, b2, c2, d2] t
  rw [World.size_alloc] at h2
  exact ⟨(own_new w _ t).alloc _, h2⟩
theorem rowb_some {w : World} {B : Nat} {v : Value} {bs : List Int} (h : RowB w B v bs) (hne : bs ≠ []) : ∃ g cap, v = .slice (some ⟨g, 0, none⟩) bs.length cap ∧ g < w.heap.size ∧ bs.length ≤ cap ∧ SeesB w g 0 bs := by
  rcases h with ⟨he, _⟩ | ⟨_, g, cap, _, hg, hc, rfl, hs⟩
  · exact absurd he hne
  · exact ⟨g, cap, rfl, hg, hc, hs⟩
theorem SeesB.below {w w1 : World} {b o : Nat} {zs : List Int} (h : SeesB w b o zs) (k : Below w.heap.size w w1) : SeesB w1 b o zs := fun j hj => cell_below (h j hj) k
theorem SeesB.take {w : World} {b o : Nat} {zs : List Int} (h : SeesB w b o zs) (n : Nat) : SeesB w b o (zs.take n) := by
  intro j hj
  have : j < zs.length ∧ j < n := by simp at hj; omega
  rw [h j this.1]
  simp [List.getD, List.getElem?_take, this.2]
set_option maxRecDepth 100000 in
set_option maxHeartbeats 1000000 in
theorem apart_k1 (op d s n op2 d2 s2 n2 k k2 : Int) (bs bs2 : List Int) (h1 : PutsV op d s n k bs) (h2 : PutsV op2 d2 s2 n2 k2 bs2) (hk : (k != 0) = true) (w : World) :
    Calls Try.prog 6 #[.agg #[.int .i64 op, .int .i64 d, .int .i64 s, .int .u16 n], .agg #[.int .i64 op2, .int .i64 d2, .int .i64 s2, .int .u16 n2]] w fun e w' => e = .returned (.bool true) ∧ Below w.heap.size w w' := by
  unfold PutsV at h1 h2
  obtain ⟨oa, ob⟩ := ins2 w (.int .i64 op) (.int .i64 d) (.int .i64 s) (.int .u16 n) (.int .i64 op2) (.int .i64 d2) (.int .i64 s2) (.int .u16 n2) 59
  have bW : Below w.heap.size w ((w.alloc (Obj.cells #[.int .i64 op, .int .i64 d, .int .i64 s, .int .u16 n] 59)).alloc (Obj.cells #[.int .i64 op2, .int .i64 d2, .int .i64 s2, .int .u16 n2] 59)) := balloc (balloc (Below.refl _ _) _) _
  go_enter Try.func6, Try.ntmps6
  go_wp2_with (first
    | (go_at_call 26; with_reducible refine (own8_any op d s n _).mono ?_; rintro e w4 ⟨rfl, hb4⟩; have oa4 := oa.below hb4; have ob4 := ob.below hb4; have ka4 := own4 oa4; have kb4 := own4 ob4)
    | (go_at_call 26; with_reducible refine (own8_any op2 d2 s2 n2 _).mono ?_; rintro e w5 ⟨rfl, hb5⟩; have oa5 := oa1.below hb5; have ob5 := ob1.below hb5)
    | (go_at_call 24; with_reducible refine (h1 _).mono ?_; rintro e w1 ⟨v1, rfl, hr1, hb1⟩; have oa1 := oa4.below hb1; have ob1 := ob4.below hb1; have ka1 := own4 oa1; have kb1 := own4 ob1)
    | (go_at_call 24; with_reducible refine (h2 _).mono ?_; rintro e w2 ⟨v2, rfl, hr2, hb2⟩; have oa2 := oa5.below hb2; have ob2 := ob5.below hb2; have ka2 := own4 oa2; have kb2 := own4 ob2)
    | (go_at_call 22; with_reducible refine (alive8_any _).mono ?_; rintro e w3 ⟨rfl, hb3⟩))
  go_ret
  exact ⟨rfl, bthen hb3 (bthen hb2 (bthen hb5 (bthen hb1 (bthen hb4 bW))))⟩

set_option maxRecDepth 100000 in
set_option maxHeartbeats 1000000 in
theorem apart_k2 (op d s n op2 d2 s2 n2 k2 : Int) (bs bs2 : List Int) (h1 : PutsV op d s n 0 bs) (h2 : PutsV op2 d2 s2 n2 k2 bs2) (hk : (k2 != 0) = true) (hne : bs ≠ []) (w : World) :
    Calls Try.prog 6 #[.agg #[.int .i64 op, .int .i64 d, .int .i64 s, .int .u16 n], .agg #[.int .i64 op2, .int .i64 d2, .int .i64 s2, .int .u16 n2]] w fun e w' => e = .returned (.bool true) ∧ Below w.heap.size w w' := by
  unfold PutsV at h1 h2
  obtain ⟨oa, ob⟩ := ins2 w (.int .i64 op) (.int .i64 d) (.int .i64 s) (.int .u16 n) (.int .i64 op2) (.int .i64 d2) (.int .i64 s2) (.int .u16 n2) 59
  have bW : Below w.heap.size w ((w.alloc (Obj.cells #[.int .i64 op, .int .i64 d, .int .i64 s, .int .u16 n] 59)).alloc (Obj.cells #[.int .i64 op2, .int .i64 d2, .int .i64 s2, .int .u16 n2] 59)) := balloc (balloc (Below.refl _ _) _) _
  go_enter Try.func6, Try.ntmps6
  go_wp2_with (first
    | (go_at_call 26; with_reducible refine (own8_any op d s n _).mono ?_; rintro e w4 ⟨rfl, hb4⟩; have oa4 := oa.below hb4; have ob4 := ob.below hb4; have ka4 := own4 oa4; have kb4 := own4 ob4)
    | (go_at_call 26; with_reducible refine (own8_any op2 d2 s2 n2 _).mono ?_; rintro e w5 ⟨rfl, hb5⟩; have oa5 := oa1.below hb5; have ob5 := ob1.below hb5)
    | (go_at_call 24; with_reducible refine (h1 _).mono ?_; rintro e w1 ⟨v1, rfl, hr1, hb1⟩; obtain ⟨g1, c1, rfl, hg1, hc1, hs1⟩ := rowb_some hr1 hne; have oa1 := oa4.below hb1; have ob1 := ob4.below hb1; have ka1 := own4 oa1; have kb1 := own4 ob1)
    | (go_at_call 24; with_reducible refine (h2 _).mono ?_; rintro e w2 ⟨v2, rfl, hr2, hb2⟩; have oa2 := oa5.below hb2; have ob2 := ob5.below hb2; have ka2 := own4 oa2; have kb2 := own4 ob2)
    | (go_at_call 22; with_reducible refine (alive8_any _).mono ?_; rintro e w3 ⟨rfl, hb3⟩))
  go_ret
  exact ⟨rfl, bthen hb3 (bthen hb2 (bthen hb5 (bthen hb1 (bthen hb4 bW))))⟩
set_option maxRecDepth 100000 in
set_option maxHeartbeats 1000000 in
theorem apart_len (op d s n op2 d2 s2 n2 : Int) (bs bs2 : List Int) (h1 : PutsV op d s n 0 bs) (h2 : PutsV op2 d2 s2 n2 0 bs2) (hl : (bs2.length : Int) < bs.length) (hne : bs ≠ []) (hne2 : bs2 ≠ []) (w : World) :
    Calls Try.prog 6 #[.agg #[.int .i64 op, .int .i64 d, .int .i64 s, .int .u16 n], .agg #[.int .i64 op2, .int .i64 d2, .int .i64 s2, .int .u16 n2]] w fun e w' => e = .returned (.bool true) ∧ Below w.heap.size w w' := by
  unfold PutsV at h1 h2
  obtain ⟨oa, ob⟩ := ins2 w (.int .i64 op) (.int .i64 d) (.int .i64 s) (.int .u16 n) (.int .i64 op2) (.int .i64 d2) (.int .i64 s2) (.int .u16 n2) 59
  have bW : Below w.heap.size w ((w.alloc (Obj.cells #[.int .i64 op, .int .i64 d, .int .i64 s, .int .u16 n] 59)).alloc (Obj.cells #[.int .i64 op2, .int .i64 d2, .int .i64 s2, .int .u16 n2] 59)) := balloc (balloc (Below.refl _ _) _) _
  go_enter Try.func6, Try.ntmps6
  go_wp2_with (first
    | (go_at_call 26; with_reducible refine (own8_any op d s n _).mono ?_; rintro e w4 ⟨rfl, hb4⟩; have oa4 := oa.below hb4; have ob4 := ob.below hb4; have ka4 := own4 oa4; have kb4 := own4 ob4)
    | (go_at_call 26; with_reducible refine (own8_any op2 d2 s2 n2 _).mono ?_; rintro e w5 ⟨rfl, hb5⟩; have oa5 := oa1.below hb5; have ob5 := ob1.below hb5)
    | (go_at_call 24; with_reducible refine (h1 _).mono ?_; rintro e w1 ⟨v1, rfl, hr1, hb1⟩; obtain ⟨g1, c1, rfl, hg1, hc1, hs1⟩ := rowb_some hr1 hne; have oa1 := oa4.below hb1; have ob1 := ob4.below hb1; have ka1 := own4 oa1; have kb1 := own4 ob1)
    | (go_at_call 24; with_reducible refine (h2 _).mono ?_; rintro e w2 ⟨v2, rfl, hr2, hb2⟩; obtain ⟨g2, c2, rfl, hg2, hc2, hs2⟩ := rowb_some hr2 hne2; have oa2 := oa5.below hb2; have ob2 := ob5.below hb2; have ka2 := own4 oa2; have kb2 := own4 ob2)
    | (go_at_call 22; with_reducible refine (alive8_any _).mono ?_; rintro e w3 ⟨rfl, hb3⟩))
  go_ret
  exact ⟨rfl, bthen hb3 (bthen hb2 (bthen hb5 (bthen hb1 (bthen hb4 bW))))⟩
set_option maxRecDepth 100000 in
set_option maxHeartbeats 1000000 in
theorem apart_all (op d s n op2 d2 s2 n2 : Int) (bs bs2 : List Int) (h1 : PutsV op d s n 0 bs) (h2 : PutsV op2 d2 s2 n2 0 bs2) (hl : (bs.length : Int) ≤ bs2.length) (hbig : bs.length ≤ 140737488355328) (htk : (bs2.take bs.length).length = bs.length) (E : Bool) (hD : decide (bs = bs2.take bs.length) = E) (hE : ∀ w, (binOp .eql 59 (.agg #[.int .i64 op, .int .i64 d, .int .i64 s, .int .u16 n]) (.agg #[.int .i64 op2, .int .i64 d2, .int .i64 s2, .int .u16 n2])).run Try.prog w = .ok (.bool E) w) (hne : bs ≠ []) (hne2 : bs2 ≠ []) (w : World) :
    Calls Try.prog 6 #[.agg #[.int .i64 op, .int .i64 d, .int .i64 s, .int .u16 n], .agg #[.int .i64 op2, .int .i64 d2, .int .i64 s2, .int .u16 n2]] w fun e w' => e = .returned (.bool true) ∧ Below w.heap.size w w' := by
  unfold PutsV at h1 h2
  obtain ⟨oa, ob⟩ := ins2 w (.int .i64 op) (.int .i64 d) (.int .i64 s) (.int .u16 n) (.int .i64 op2) (.int .i64 d2) (.int .i64 s2) (.int .u16 n2) 59
  have bW : Below w.heap.size w ((w.alloc (Obj.cells #[.int .i64 op, .int .i64 d, .int .i64 s, .int .u16 n] 59)).alloc (Obj.cells #[.int .i64 op2, .int .i64 d2, .int .i64 s2, .int .u16 n2] 59)) := balloc (balloc (Below.refl _ _) _) _
  go_enter Try.func6, Try.ntmps6
  go_wp2_with (first
    | (go_at_call 26; with_reducible refine (own8_any op d s n _).mono ?_; rintro e w4 ⟨rfl, hb4⟩; have oa4 := oa.below hb4; have ob4 := ob.below hb4; have ka4 := own4 oa4; have kb4 := own4 ob4)
    | (go_at_call 26; with_reducible refine (own8_any op2 d2 s2 n2 _).mono ?_; rintro e w5 ⟨rfl, hb5⟩; have oa5 := oa1.below hb5; have ob5 := ob1.below hb5)
    | (go_at_call 24; with_reducible refine (h1 _).mono ?_; rintro e w1 ⟨v1, rfl, hr1, hb1⟩; obtain ⟨g1, c1, rfl, hg1, hc1, hs1⟩ := rowb_some hr1 hne; have oa1 := oa4.below hb1; have ob1 := ob4.below hb1; have ka1 := own4 oa1; have kb1 := own4 ob1)
    | (go_at_call 24; with_reducible refine (h2 _).mono ?_; rintro e w2 ⟨v2, rfl, hr2, hb2⟩; obtain ⟨g2, c2, rfl, hg2, hc2, hs2⟩ := rowb_some hr2 hne2; have oa2 := oa5.below hb2; have ob2 := ob5.below hb2; have ka2 := own4 oa2; have kb2 := own4 ob2)
    | (go_at_call 22; with_reducible refine (alive8_any _).mono ?_; rintro e w3 ⟨rfl, hb3⟩))
  have kk := fun W (hB : Below w2.heap.size w2 W) => (⟨⟨cell_below ka2.1 hB, cell_below ka2.2.1 hB, cell_below ka2.2.2.1 hB, cell_below ka2.2.2.2 hB⟩, ⟨cell_below kb2.1 hB, cell_below kb2.2.1 hB, cell_below kb2.2.2.1 hB, cell_below kb2.2.2.2 hB⟩⟩ :
    (W.cell? ⟨w.heap.size, 0, none⟩ = some (.int .i64 op) ∧ W.cell? ⟨w.heap.size, 1, none⟩ = some (.int .i64 d) ∧ W.cell? ⟨w.heap.size, 2, none⟩ = some (.int .i64 s) ∧ W.cell? ⟨w.heap.size, 3, none⟩ = some (.int .u16 n)) ∧ (W.cell? ⟨w.heap.size + 1, 0, none⟩ = some (.int .i64 op2) ∧ W.cell? ⟨w.heap.size + 1, 1, none⟩ = some (.int .i64 d2) ∧ W.cell? ⟨w.heap.size + 1, 2, none⟩ = some (.int .i64 s2) ∧ W.cell? ⟨w.heap.size + 1, 3, none⟩ = some (.int .u16 n2)))
  have u1 := (hs1.below hb5).below hb2
  have u2 := hs2.take bs.length
  have hB0 : Below w.heap.size w w2 := bthen hb2 (bthen hb5 (bthen hb1 (bthen hb4 bW)))
  have hcap : (bs.length : Int) ≤ c2 := by omega
  have hwr : IntKind.i64.wrap (bs.length : Int) = bs.length := by rw [IntKind.wrap_i64]; omega
  clear ka4 kb4 ka1 kb1 oa4 ob4 oa5 ob5 oa1 ob1 hr1 hr2 hs1 hs2 h1 h2 bW oa ob ka2 kb2 oa2 ob2 hb1 hb2 hb4 hb5
  have R := fun W (hB : Below w2.heap.size w2 W) => rbytes_same g1 0 c1 g2 0 c2 bs (bs2.take bs.length) W hbig htk (u1.below hB) (u2.below hB)
  rw [hD] at R
  clear hD
  go_region_held3 (fun W => ((W.cell? ⟨w.heap.size, 0, none⟩ = some (.int .i64 op) ∧ W.cell? ⟨w.heap.size, 1, none⟩ = some (.int .i64 d) ∧ W.cell? ⟨w.heap.size, 2, none⟩ = some (.int .i64 s) ∧ W.cell? ⟨w.heap.size, 3, none⟩ = some (.int .u16 n)) ∧ (W.cell? ⟨w.heap.size + 1, 0, none⟩ = some (.int .i64 op2) ∧ W.cell? ⟨w.heap.size + 1, 1, none⟩ = some (.int .i64 d2) ∧ W.cell? ⟨w.heap.size + 1, 2, none⟩ = some (.int .i64 s2) ∧ W.cell? ⟨w.heap.size + 1, 3, none⟩ = some (.int .u16 n2))) ∧ Below w2.heap.size w2 W)
    ((refine (fun hB => ⟨kk _ hB, hB⟩) ?_; (first | with_reducible exact Below.refl _ _ | with_reducible exact bdrew (Below.refl _ _) | with_reducible exact bdrewN (Below.refl _ _) _ | (go_split_ands; first | assumption | (refine bthen (by assumption) ?_; assumption) | (refine bdrewN ?_ _; assumption)))))
    (first
      | (go_simp; go_at_call 25; with_reducible refine (R _ (by first | assumption | (go_split_ands; assumption))).mono ?_; rintro e wn ⟨rfl, m, rfl⟩)
      | (go_simp; go_at_call 22; with_reducible refine (alive8_any _).mono ?_; rintro e wn ⟨rfl, hbn⟩))
  go_wp2
  go_ret
  go_split_ands
  exact ⟨rfl, bthen (by assumption) hB0⟩

theorem bytes_byt (op d s n : Int) (n0 : 0 ≤ n) (n1 : n ≤ 65535) (hr : rightL (headsL op d s) n = 0) : bytesL op d s n ≠ [] ∧ (bytesL op d s n).length ≤ 4 := by
  obtain ⟨_, h1, h2⟩ := read_back op d s n n0 n1 hr [] (by intro x hx; cases hx)
  exact ⟨by intro h; rw [h] at h1; simp at h1, h2⟩
theorem isa86Apart_any (op d s n op2 d2 s2 n2 : Int) (n0 : 0 ≤ n) (n1 : n ≤ 65535) (m0 : 0 ≤ n2) (m1 : n2 ≤ 65535) (w : World) :
    Calls Try.prog 6 #[.agg #[.int .i64 op, .int .i64 d, .int .i64 s, .int .u16 n], .agg #[.int .i64 op2, .int .i64 d2, .int .i64 s2, .int .u16 n2]] w fun e w' => e = .returned (.bool true) ∧ Below w.heap.size w w' := by
  have h1 : PutsV op d s n (rightL (headsL op d s) n) (bytesL op d s n) := fun w => bytes_any op d s n n0 n1 w
  have h2 : PutsV op2 d2 s2 n2 (rightL (headsL op2 d2 s2) n2) (bytesL op2 d2 s2 n2) := fun w => bytes_any op2 d2 s2 n2 m0 m1 w
  by_cases k1 : rightL (headsL op d s) n = 0
  · have b1 := bytes_byt op d s n n0 n1 k1
    by_cases k2 : rightL (headsL op2 d2 s2) n2 = 0
    · have b2 := bytes_byt op2 d2 s2 n2 m0 m1 k2
      have law := apart_law op d s n op2 d2 s2 n2 n0 n1 m0 m1 k1 k2
      rw [k1] at h1
      rw [k2] at h2
      by_cases hl : ((bytesL op2 d2 s2 n2).length : Int) < (bytesL op d s n).length
      · exact apart_len op d s n op2 d2 s2 n2 _ _ h1 h2 hl b1.1 b2.1 w
      · have htk : ((bytesL op2 d2 s2 n2).take (bytesL op d s n).length).length = (bytesL op d s n).length := by simp; omega
        by_cases he : op = op2 ∧ d = d2 ∧ s = s2 ∧ n = n2
        · obtain ⟨rfl, rfl, rfl, rfl⟩ := he
          exact apart_all op d s n op d s n _ _ h1 h2 (by omega) (by omega) htk true (by simp) (fun w => by go_simp) b1.1 b2.1 w
        · have hD : decide (bytesL op d s n = (bytesL op2 d2 s2 n2).take (bytesL op d s n).length) = false := by
            rw [decide_eq_false_iff_not]
            exact fun h => he (law h)
          refine apart_all op d s n op2 d2 s2 n2 _ _ h1 h2 (by omega) (by omega) htk false hD ?_ b1.1 b2.1 w
          clear law hD htk h1 h2 b1 b2 hl k1 k2
          by_cases e1 : op = op2
          · subst e1
            by_cases e2 : d = d2
            · subst e2
              by_cases e3 : s = s2
              · subst e3
                have e4 : (n == n2) = false := by simpa using fun h => he ⟨rfl, rfl, rfl, h⟩
                exact fun w => by go_simp
              · have e4 : (s == s2) = false := by simpa using e3
                exact fun w => by go_simp
            · have e4 : (d == d2) = false := by simpa using e2
              exact fun w => by go_simp
          · have e4 : (op == op2) = false := by simpa using e1
            exact fun w => by go_simp
    · rw [k1] at h1
      exact apart_k2 op d s n op2 d2 s2 n2 _ _ _ h1 h2 (by simpa using k2) b1.1 w
  · exact apart_k1 op d s n op2 d2 s2 n2 _ _ _ _ h1 h2 (by simpa using k1) w

end Go.Proofs.Ytbhkndblolegaaa
