/- The walk of the law Isa86Near: whatever comes in, the law returns true. -/
import Derived.Test.YtbhkndblolegaaaIv
namespace Go.Proofs.Ytbhkndblolegaaa
open Go.RowKit
set_option linter.unusedVariables false
set_option linter.unusedSimpArgs false

def condL (op : Int) : Bool := (decide (42 ≤ op) && decide (op ≤ 45)) || (decide (48 ≤ op) && decide (op ≤ 51))
theorem cond_any (op : Int) (w : World) : Calls Try.prog 27 #[.int .i64 op] w fun e w' => e = .returned (.bool (condL op)) ∧ w = w' := by
  by_cases h1 : 42 ≤ op <;> by_cases h2 : op ≤ 45 <;> by_cases h3 : 48 ≤ op <;> by_cases h4 : op ≤ 51 <;> first | (exfalso; omega) | skip
  all_goals
    have e : condL op = ((decide (42 ≤ op) && decide (op ≤ 45)) || (decide (48 ≤ op) && decide (op ≤ 51))) := rfl
    simp only [h1, h2, h3, h4, decide_true, decide_false, Bool.true_and, Bool.false_and, Bool.or_false, Bool.false_or, Bool.and_true, Bool.and_false, Bool.or_true, Bool.true_or] at e
    rw [e]
    go_enter Try.func27, Try.ntmps27
    go_wp2
    go_ret
    exact ⟨rfl, rfl⟩

def Puts (op n : Int) (L : Nat) : Prop := ∀ w, Calls Try.prog 24 #[.agg #[.int .i64 op, .int .i64 20, .int .i64 0, .int .u16 n]] w fun e w' => ∃ g cap, e = .returned (.tuple #[.slice (some ⟨g, 0, none⟩) L cap, .int .i64 0]) ∧ Below w.heap.size w w'
def Far (op n : Int) : Prop := ∀ w, Calls Try.prog 24 #[.agg #[.int .i64 op, .int .i64 20, .int .i64 0, .int .u16 n]] w fun e w' => e = .returned (.tuple #[.slice none 0 0, .int .i64 5]) ∧ Below w.heap.size w w'

set_option maxHeartbeats 1000000 in
theorem near_no (op n : Int) (h : ¬ op = 33) (hc : condL op = false) (w : World) :
    Calls Try.prog 7 #[.int .i64 op, .int .u16 n] w fun e w' => e = .returned (.bool true) ∧ Below w.heap.size w w' := by
  have h' : (op != 33) = true := by simpa using h
  have C := fun w => cond_any op w
  rw [hc] at C
  go_enter Try.func7, Try.ntmps7
  go_wp2_with (first
    | (go_at_call 27; refine (C _).mono ?_; rintro e w1 ⟨rfl, rfl⟩)
    | (go_at_call 22; refine (alive8_any _).mono ?_; rintro e w1 ⟨rfl, hb⟩))
  go_ret
  exact ⟨rfl, hb⟩

set_option maxRecDepth 100000 in
set_option maxHeartbeats 1000000 in
theorem near_il3 (n : Int) (n0 : 0 ≤ n) (n1 : n ≤ 65535) (q : n ≤ 127) (hB : Puts 33 n 2) (hC : Puts 32 n 3) (w : World) :
    Calls Try.prog 7 #[.int .i64 33, .int .u16 n] w fun e w' => e = .returned (.bool true) ∧ Below w.heap.size w w' := by
  unfold Puts at hC
  unfold Puts at hB
  go_enter Try.func7, Try.ntmps7
  go_wp2_with (first
    | (go_at_call 24; with_reducible refine (hB _).mono ?_; rintro e w1 ⟨g, cap, rfl, hb1⟩)
    | (go_at_call 24; with_reducible refine (hC _).mono ?_; rintro e w2 ⟨g2, cap2, rfl, hb2⟩)
    | (go_at_call 22; refine (alive8_any _).mono ?_; rintro e w3 ⟨rfl, hb3⟩))
  go_ret
  exact ⟨rfl, bthen hb3 (bthen hb2 hb1)⟩

set_option maxRecDepth 100000 in
set_option maxHeartbeats 1000000 in
theorem near_ih3 (n : Int) (n0 : 0 ≤ n) (n1 : n ≤ 65535) (q : 65408 ≤ n) (hB : Puts 33 n 2) (hC : Puts 32 n 3) (w : World) :
    Calls Try.prog 7 #[.int .i64 33, .int .u16 n] w fun e w' => e = .returned (.bool true) ∧ Below w.heap.size w w' := by
  unfold Puts at hC
  unfold Puts at hB
  go_enter Try.func7, Try.ntmps7
  go_wp2_with (first
    | (go_at_call 24; with_reducible refine (hB _).mono ?_; rintro e w1 ⟨g, cap, rfl, hb1⟩)
    | (go_at_call 24; with_reducible refine (hC _).mono ?_; rintro e w2 ⟨g2, cap2, rfl, hb2⟩)
    | (go_at_call 22; refine (alive8_any _).mono ?_; rintro e w3 ⟨rfl, hb3⟩))
  go_ret
  exact ⟨rfl, bthen hb3 (bthen hb2 hb1)⟩

set_option maxRecDepth 100000 in
set_option maxHeartbeats 1000000 in
theorem near_ol3 (n : Int) (n0 : 0 ≤ n) (n1 : n ≤ 65535) (q : 128 ≤ n) (q2 : n < 32768) (hB : Far 33 n) (hC : Puts 32 n 3) (w : World) :
    Calls Try.prog 7 #[.int .i64 33, .int .u16 n] w fun e w' => e = .returned (.bool true) ∧ Below w.heap.size w w' := by
  unfold Puts at hC
  unfold Far at hB
  go_enter Try.func7, Try.ntmps7
  go_wp2_with (first
    | (go_at_call 24; with_reducible refine (hB _).mono ?_; rintro e w1 ⟨rfl, hb1⟩)
    | (go_at_call 24; with_reducible refine (hC _).mono ?_; rintro e w2 ⟨g2, cap2, rfl, hb2⟩)
    | (go_at_call 22; refine (alive8_any _).mono ?_; rintro e w3 ⟨rfl, hb3⟩))
  go_ret
  exact ⟨rfl, bthen hb3 (bthen hb2 hb1)⟩

set_option maxRecDepth 100000 in
set_option maxHeartbeats 1000000 in
theorem near_oh3 (n : Int) (n0 : 0 ≤ n) (n1 : n ≤ 65535) (q : 32768 ≤ n) (q2 : n < 65408) (hB : Far 33 n) (hC : Puts 32 n 3) (w : World) :
    Calls Try.prog 7 #[.int .i64 33, .int .u16 n] w fun e w' => e = .returned (.bool true) ∧ Below w.heap.size w w' := by
  unfold Puts at hC
  unfold Far at hB
  go_enter Try.func7, Try.ntmps7
  go_wp2_with (first
    | (go_at_call 24; with_reducible refine (hB _).mono ?_; rintro e w1 ⟨rfl, hb1⟩)
    | (go_at_call 24; with_reducible refine (hC _).mono ?_; rintro e w2 ⟨g2, cap2, rfl, hb2⟩)
    | (go_at_call 22; refine (alive8_any _).mono ?_; rintro e w3 ⟨rfl, hb3⟩))
  go_ret
  exact ⟨rfl, bthen hb3 (bthen hb2 hb1)⟩

set_option maxRecDepth 100000 in
set_option maxHeartbeats 1000000 in
theorem near_il (op n : Int) (h : ¬ op = 33) (g32 : ¬ op = 32) (hc : condL op = true) (n0 : 0 ≤ n) (n1 : n ≤ 65535) (q : n ≤ 127) (hB : Puts op n 2) (hC : Puts 32 n 3) (w : World) :
    Calls Try.prog 7 #[.int .i64 op, .int .u16 n] w fun e w' => e = .returned (.bool true) ∧ Below w.heap.size w w' := by
  have h' : (op != 33) = true := by simpa using h
  have C := fun w => cond_any op w
  rw [hc] at C
  unfold Puts at hC
  unfold Puts at hB
  go_enter Try.func7, Try.ntmps7
  go_wp2_with (first
    | (go_at_call 27; refine (C _).mono ?_; rintro e w1 ⟨rfl, rfl⟩)
    | (go_at_call 24; with_reducible refine (hB _).mono ?_; rintro e w1 ⟨g, cap, rfl, hb1⟩)
    | (go_at_call 24; with_reducible refine (hC _).mono ?_; rintro e w2 ⟨g2, cap2, rfl, hb2⟩)
    | (go_at_call 22; refine (alive8_any _).mono ?_; rintro e w3 ⟨rfl, hb3⟩))
  go_ret
  exact ⟨rfl, bthen hb3 (bthen hb2 hb1)⟩

set_option maxRecDepth 100000 in
set_option maxHeartbeats 1000000 in
theorem near_ih (op n : Int) (h : ¬ op = 33) (g32 : ¬ op = 32) (hc : condL op = true) (n0 : 0 ≤ n) (n1 : n ≤ 65535) (q : 65408 ≤ n) (hB : Puts op n 2) (hC : Puts 32 n 3) (w : World) :
    Calls Try.prog 7 #[.int .i64 op, .int .u16 n] w fun e w' => e = .returned (.bool true) ∧ Below w.heap.size w w' := by
  have h' : (op != 33) = true := by simpa using h
  have C := fun w => cond_any op w
  rw [hc] at C
  unfold Puts at hC
  unfold Puts at hB
  go_enter Try.func7, Try.ntmps7
  go_wp2_with (first
    | (go_at_call 27; refine (C _).mono ?_; rintro e w1 ⟨rfl, rfl⟩)
    | (go_at_call 24; with_reducible refine (hB _).mono ?_; rintro e w1 ⟨g, cap, rfl, hb1⟩)
    | (go_at_call 24; with_reducible refine (hC _).mono ?_; rintro e w2 ⟨g2, cap2, rfl, hb2⟩)
    | (go_at_call 22; refine (alive8_any _).mono ?_; rintro e w3 ⟨rfl, hb3⟩))
  go_ret
  exact ⟨rfl, bthen hb3 (bthen hb2 hb1)⟩

set_option maxRecDepth 100000 in
set_option maxHeartbeats 1000000 in
theorem near_ol (op n : Int) (h : ¬ op = 33) (g32 : ¬ op = 32) (hc : condL op = true) (n0 : 0 ≤ n) (n1 : n ≤ 65535) (q : 128 ≤ n) (q2 : n < 32768) (hB : Far op n) (hC : Puts 32 n 3) (w : World) :
    Calls Try.prog 7 #[.int .i64 op, .int .u16 n] w fun e w' => e = .returned (.bool true) ∧ Below w.heap.size w w' := by
  have h' : (op != 33) = true := by simpa using h
  have C := fun w => cond_any op w
  rw [hc] at C
  unfold Puts at hC
  unfold Far at hB
  go_enter Try.func7, Try.ntmps7
  go_wp2_with (first
    | (go_at_call 27; refine (C _).mono ?_; rintro e w1 ⟨rfl, rfl⟩)
    | (go_at_call 24; with_reducible refine (hB _).mono ?_; rintro e w1 ⟨rfl, hb1⟩)
    | (go_at_call 24; with_reducible refine (hC _).mono ?_; rintro e w2 ⟨g2, cap2, rfl, hb2⟩)
    | (go_at_call 22; refine (alive8_any _).mono ?_; rintro e w3 ⟨rfl, hb3⟩))
  go_ret
  exact ⟨rfl, bthen hb3 (bthen hb2 hb1)⟩

set_option maxRecDepth 100000 in
set_option maxHeartbeats 1000000 in
theorem near_oh (op n : Int) (h : ¬ op = 33) (g32 : ¬ op = 32) (hc : condL op = true) (n0 : 0 ≤ n) (n1 : n ≤ 65535) (q : 32768 ≤ n) (q2 : n < 65408) (hB : Far op n) (hC : Puts 32 n 3) (w : World) :
    Calls Try.prog 7 #[.int .i64 op, .int .u16 n] w fun e w' => e = .returned (.bool true) ∧ Below w.heap.size w w' := by
  have h' : (op != 33) = true := by simpa using h
  have C := fun w => cond_any op w
  rw [hc] at C
  unfold Puts at hC
  unfold Far at hB
  go_enter Try.func7, Try.ntmps7
  go_wp2_with (first
    | (go_at_call 27; refine (C _).mono ?_; rintro e w1 ⟨rfl, rfl⟩)
    | (go_at_call 24; with_reducible refine (hB _).mono ?_; rintro e w1 ⟨rfl, hb1⟩)
    | (go_at_call 24; with_reducible refine (hC _).mono ?_; rintro e w2 ⟨g2, cap2, rfl, hb2⟩)
    | (go_at_call 22; refine (alive8_any _).mono ?_; rintro e w3 ⟨rfl, hb3⟩))
  go_ret
  exact ⟨rfl, bthen hb3 (bthen hb2 hb1)⟩

theorem row_len {w : World} {B : Nat} {v : Value} {bs : List Int} (h : RowB w B v bs) (hne : bs ≠ []) : ∃ g cap, v = .slice (some ⟨g, 0, none⟩) bs.length cap := by
  rcases h with ⟨he, _⟩ | ⟨_, g, cap, _, _, _, rfl, _⟩
  · exact absurd he hne
  · exact ⟨g, cap, rfl⟩
theorem puts_long (n : Int) (n0 : 0 ≤ n) (n1 : n ≤ 65535) : Puts 32 n 3 := by
  intro w
  have h := bytes_any 32 20 0 n n0 n1 w
  have e : headsL 32 20 0 = ([233], 2) := by decide
  have e1 : rightL (headsL 32 20 0) n = 0 := by rw [e]; simp [rightL]
  have e2 : bytesL 32 20 0 n = [233, n % 256, n / 256] := by unfold bytesL; rw [e1, e]; simp [tailB]
  rw [e1, e2] at h
  refine h.mono ?_
  rintro e w' ⟨v, rfl, hr, hb⟩
  obtain ⟨g, cap, rfl⟩ := row_len hr (by simp)
  exact ⟨g, cap, rfl, hb⟩
theorem puts_near (op n b : Int) (e : headsL op 20 0 = ([b], 3)) (n0 : 0 ≤ n) (n1 : n ≤ 65535) (hn : nearN n = n) : Puts op n 2 := by
  intro w
  have h := bytes_any op 20 0 n n0 n1 w
  have e1 : rightL (headsL op 20 0) n = 0 := by rw [e]; simp [rightL, hn]
  have e2 : bytesL op 20 0 n = [b, n % 256] := by unfold bytesL; rw [e1, e]; simp [tailB]
  rw [e1, e2] at h
  refine h.mono ?_
  rintro e w' ⟨v, rfl, hr, hb⟩
  obtain ⟨g, cap, rfl⟩ := row_len hr (by simp)
  exact ⟨g, cap, rfl, hb⟩
theorem far_near (op n b : Int) (e : headsL op 20 0 = ([b], 3)) (n0 : 0 ≤ n) (n1 : n ≤ 65535) (hn : ¬ nearN n = n) : Far op n := by
  intro w
  have h := bytes_any op 20 0 n n0 n1 w
  have e1 : rightL (headsL op 20 0) n = 5 := by rw [e]; simp [rightL, hn]
  have e2 : bytesL op 20 0 n = [] := by unfold bytesL; rw [e1]; simp
  rw [e1, e2] at h
  refine h.mono ?_
  rintro e w' ⟨v, rfl, hr, hb⟩
  rcases hr with ⟨_, rfl⟩ | ⟨he, _⟩
  · exact ⟨rfl, hb⟩
  · exact absurd rfl he
theorem near_fits (n : Int) (n0 : 0 ≤ n) (n1 : n ≤ 65535) : nearN n = n ↔ (n ≤ 127 ∨ 65408 ≤ n) := by
  unfold nearN
  split <;> omega

theorem isa86Near_any (op n : Int) (n0 : 0 ≤ n) (n1 : n ≤ 65535) (w : World) :
    Calls Try.prog 7 #[.int .i64 op, .int .u16 n] w fun e w' => e = .returned (.bool true) ∧ Below w.heap.size w w' := by
  have hf := near_fits n n0 n1
  have hC := puts_long n n0 n1
  by_cases h33 : op = 33
  · subst h33
    have e : headsL 33 20 0 = ([235], 3) := by decide
    by_cases q : n ≤ 127
    · exact near_il3 n n0 n1 q (puts_near 33 n 235 e n0 n1 (hf.2 (.inl q))) hC w
    by_cases q2 : 65408 ≤ n
    · exact near_ih3 n n0 n1 q2 (puts_near 33 n 235 e n0 n1 (hf.2 (.inr q2))) hC w
    have hB := far_near 33 n 235 e n0 n1 (fun h => by rcases hf.1 h with h | h <;> omega)
    by_cases q3 : n < 32768
    · exact near_ol3 n n0 n1 (by omega) q3 hB hC w
    · exact near_oh3 n n0 n1 (by omega) (by omega) hB hC w
  by_cases hc : condL op = true
  · have hop : op = 42 ∨ op = 43 ∨ op = 44 ∨ op = 45 ∨ op = 48 ∨ op = 49 ∨ op = 50 ∨ op = 51 := by
      simp [condL] at hc; omega
    have e : ∃ b, headsL op 20 0 = ([b], 3) := by
      rcases hop with rfl | rfl | rfl | rfl | rfl | rfl | rfl | rfl
      · exact ⟨114, by decide⟩
      · exact ⟨115, by decide⟩
      · exact ⟨116, by decide⟩
      · exact ⟨117, by decide⟩
      · exact ⟨120, by decide⟩
      · exact ⟨121, by decide⟩
      · exact ⟨122, by decide⟩
      · exact ⟨123, by decide⟩
    obtain ⟨b, e⟩ := e
    have g32 : ¬ op = 32 := by omega
    by_cases q : n ≤ 127
    · exact near_il op n h33 g32 hc n0 n1 q (puts_near op n b e n0 n1 (hf.2 (.inl q))) hC w
    by_cases q2 : 65408 ≤ n
    · exact near_ih op n h33 g32 hc n0 n1 q2 (puts_near op n b e n0 n1 (hf.2 (.inr q2))) hC w
    have hB := far_near op n b e n0 n1 (fun h => by rcases hf.1 h with h | h <;> omega)
    by_cases q3 : n < 32768
    · exact near_ol op n h33 g32 hc n0 n1 (by omega) q3 hB hC w
    · exact near_oh op n h33 g32 hc n0 n1 (by omega) (by omega) hB hC w
  · exact near_no op n h33 (by simpa using hc) w

end Go.Proofs.Ytbhkndblolegaaa
