/- What isa86.guess tells, whatever the two bytes. -/
import Derived.Test.YtbhkndblolegaaaIg1
import Derived.Test.YtbhkndblolegaaaIe
import Derived.Lib.SlBytesConst
import Derived.Lib.SmallJoins
namespace Go.Proofs.Ytbhkndblolegaaa
open Go.RowKit
set_option linter.unusedVariables false
set_option linter.unusedSimpArgs false

def lastL (a : Int) : Int := if a = 159 then 0 else if a = 158 then 1 else if a = 39 then 2 else if a = 245 then 3 else if a = 249 then 4 else if a = 248 then 5 else if a = 251 then 6 else if a = 250 then 7 else if a = 244 then 8 else if a = 144 then 9 else -1
def tenB : List Int := [159, 158, 39, 245, 249, 248, 251, 250, 244, 144]
theorem tenB_last (a r : Int) (h : (∃ k : Nat, k < tenB.length ∧ r = k ∧ tenB.getD k 0 = a ∧ ∀ j, j < k → ¬ a = tenB.getD j 0) ∨ (r = -1 ∧ ∀ j, j < tenB.length → ¬ a = tenB.getD j 0)) : r = lastL a := by
  rcases h with ⟨k, hk, rfl, ha, _⟩ | ⟨rfl, ha⟩
  · have hk' : k < 10 := hk
    subst ha
    rcases k with _ | _ | _ | _ | _ | _ | _ | _ | _ | _ | k
    all_goals first | (exfalso; omega) | decide
  · have h0 := ha 0 (by decide); have h1 := ha 1 (by decide); have h2 := ha 2 (by decide); have h3 := ha 3 (by decide); have h4 := ha 4 (by decide)
    have h5 := ha 5 (by decide); have h6 := ha 6 (by decide); have h7 := ha 7 (by decide); have h8 := ha 8 (by decide); have h9 := ha 9 (by decide)
    simp [tenB] at h0 h1 h2 h3 h4 h5 h6 h7 h8 h9
    simp [lastL, *]

theorem lastL_lo (a : Int) : -1 ≤ lastL a ∧ lastL a ≤ 9 := by
  unfold lastL
  repeat' split
  all_goals omega
theorem index_ten (a : Int) (w : World) (b : Nat) (ho : ∀ i : Nat, w.cell? ⟨b, i, none⟩ = (#[.int .u8 159, .int .u8 158, .int .u8 39, .int .u8 245, .int .u8 249, .int .u8 248, .int .u8 251, .int .u8 250, .int .u8 244, .int .u8 144] : Array Value)[i]?) :
    Calls Try.prog 93 #[.slice (some ⟨b, 0, none⟩) 10 10, .int .u8 a] w fun e w' => ∃ r : Int, e = .returned (.int .i64 r) ∧ w = w' ∧ r = lastL a ∧ -1 ≤ r ∧ r ≤ 9 := by
  have hs : SeesB w b 0 tenB := by
    intro j hj
    have hj' : j < 10 := hj
    rw [ho]
    rcases j with _ | _ | _ | _ | _ | _ | _ | _ | _ | _ | j
    all_goals first | (exfalso; omega) | rfl
  refine (index_any b 0 10 tenB a w (by decide) hs).mono ?_
  rintro e w' ⟨r, rfl, rfl, hr⟩
  have h := tenB_last a r hr
  exact ⟨r, rfl, rfl, h, by rw [h]; exact (lastL_lo a).1, by rw [h]; exact (lastL_lo a).2⟩

set_option maxRecDepth 100000 in
set_option maxHeartbeats 400000 in
theorem alone_rest (a : Int) (h0 : 0 ≤ a) (h1 : a ≤ 255) (n0 : ¬ a = 160) (n1 : ¬ a = 162) (n2 : ¬ a = 228) (n3 : ¬ a = 230) (n4 : ¬ a = 233) (n5 : ¬ a = 235) (n6 : ¬ a = 232) (n7 : ¬ a = 195) (w : World) :
    Calls Try.prog 68 #[.int .u8 a] w fun e w' => e = .returned (.tuple #[.int .i64 (20 + lastL a), .int .i64 0, .int .i64 0]) ∧ Below w.heap.size w w' := by
  have kc := Lib.run_convert_bytes_const (P := Try.prog) w 26 5 #[.int .u8 159, .int .u8 158, .int .u8 39, .int .u8 245, .int .u8 249, .int .u8 248, .int .u8 251, .int .u8 250, .int .u8 244, .int .u8 144] 10 10 Try.underlying26 Try.underlying5
  have ho := World.cell?_alloc_mark w #[.int .u8 159, .int .u8 158, .int .u8 39, .int .u8 245, .int .u8 249, .int .u8 248, .int .u8 251, .int .u8 250, .int .u8 244, .int .u8 144] 5 (10, 11)
  go_enter Try.func68, Try.ntmps68
  go_wp2_with (first
    | (go_at_call 93; refine (index_ten a _ _ ho).mono ?_; rintro e w' ⟨r, rfl, rfl, hr, r0, r1⟩; have hr' := Lib.hid hr; clear hr))
  go_ret3
  exact ⟨by rw [← hr'.out]; rfl, balloc (Below.refl _ _) _⟩

set_option maxRecDepth 100000 in
set_option maxHeartbeats 1000000 in
theorem guess_lo3 (a m : Int) (h0 : 0 ≤ a) (h1 : a ≤ 255) (h2 : 0 ≤ m) (h3 : m ≤ 255) (n0 : ¬ a = 160) (n1 : ¬ a = 162) (n2 : ¬ a = 228) (n3 : ¬ a = 230) (n4 : ¬ a = 233) (n5 : ¬ a = 235) (n6 : ¬ a = 232) (n7 : ¬ a = 195) (g : a < 64) (k : a % 8 = 3) (w : World) : Calls Try.prog 41 #[.int .u8 a, .int .u8 m] w fun e w' => e = .returned (.tuple #[.int .i64 (20 + lastL a), .int .i64 0, .int .i64 0]) ∧ Below w.heap.size w w' := by
  have hm := and252_u8 a h0 h1
  obtain ⟨c, hc⟩ : ∃ c, (bits BinOp.and IntKind.u8 a 1 == 1) = c := ⟨_, rfl⟩
  go_enter Try.func41, Try.ntmps41
  go_wp2_with (first
    | (go_at_call 66; refine (register_any _ _ (by omega) (by omega) _).mono ?_; rintro e w' ⟨rfl, rfl⟩)
    | (go_at_call 68; refine (alone_rest a h0 h1 n0 n1 n2 n3 n4 n5 n6 n7 _).mono ?_; rintro e w1 ⟨rfl, hb⟩))
  go_ret3
  exact ⟨rfl, hb⟩

set_option maxRecDepth 100000 in
set_option maxHeartbeats 1000000 in
theorem guess_lo5 (a m : Int) (h0 : 0 ≤ a) (h1 : a ≤ 255) (h2 : 0 ≤ m) (h3 : m ≤ 255) (n0 : ¬ a = 160) (n1 : ¬ a = 162) (n2 : ¬ a = 228) (n3 : ¬ a = 230) (n4 : ¬ a = 233) (n5 : ¬ a = 235) (n6 : ¬ a = 232) (n7 : ¬ a = 195) (g : a < 64) (k : a % 8 = 5) (w : World) : Calls Try.prog 41 #[.int .u8 a, .int .u8 m] w fun e w' => e = .returned (.tuple #[.int .i64 (20 + lastL a), .int .i64 0, .int .i64 0]) ∧ Below w.heap.size w w' := by
  have hm := and252_u8 a h0 h1
  obtain ⟨c, hc⟩ : ∃ c, (bits BinOp.and IntKind.u8 a 1 == 1) = c := ⟨_, rfl⟩
  go_enter Try.func41, Try.ntmps41
  go_wp2_with (first
    | (go_at_call 66; refine (register_any _ _ (by omega) (by omega) _).mono ?_; rintro e w' ⟨rfl, rfl⟩)
    | (go_at_call 68; refine (alone_rest a h0 h1 n0 n1 n2 n3 n4 n5 n6 n7 _).mono ?_; rintro e w1 ⟨rfl, hb⟩))
  go_ret3
  exact ⟨rfl, hb⟩

set_option maxRecDepth 100000 in
set_option maxHeartbeats 1000000 in
theorem guess_lo6 (a m : Int) (h0 : 0 ≤ a) (h1 : a ≤ 255) (h2 : 0 ≤ m) (h3 : m ≤ 255) (n0 : ¬ a = 160) (n1 : ¬ a = 162) (n2 : ¬ a = 228) (n3 : ¬ a = 230) (n4 : ¬ a = 233) (n5 : ¬ a = 235) (n6 : ¬ a = 232) (n7 : ¬ a = 195) (g : a < 64) (k : a % 8 = 6) (w : World) : Calls Try.prog 41 #[.int .u8 a, .int .u8 m] w fun e w' => e = .returned (.tuple #[.int .i64 (20 + lastL a), .int .i64 0, .int .i64 0]) ∧ Below w.heap.size w w' := by
  have hm := and252_u8 a h0 h1
  obtain ⟨c, hc⟩ : ∃ c, (bits BinOp.and IntKind.u8 a 1 == 1) = c := ⟨_, rfl⟩
  go_enter Try.func41, Try.ntmps41
  go_wp2_with (first
    | (go_at_call 66; refine (register_any _ _ (by omega) (by omega) _).mono ?_; rintro e w' ⟨rfl, rfl⟩)
    | (go_at_call 68; refine (alone_rest a h0 h1 n0 n1 n2 n3 n4 n5 n6 n7 _).mono ?_; rintro e w1 ⟨rfl, hb⟩))
  go_ret3
  exact ⟨rfl, hb⟩

set_option maxRecDepth 100000 in
set_option maxHeartbeats 1000000 in
theorem guess_lo7 (a m : Int) (h0 : 0 ≤ a) (h1 : a ≤ 255) (h2 : 0 ≤ m) (h3 : m ≤ 255) (n0 : ¬ a = 160) (n1 : ¬ a = 162) (n2 : ¬ a = 228) (n3 : ¬ a = 230) (n4 : ¬ a = 233) (n5 : ¬ a = 235) (n6 : ¬ a = 232) (n7 : ¬ a = 195) (g : a < 64) (k : a % 8 = 7) (k2 : ¬ a = 39) (w : World) : Calls Try.prog 41 #[.int .u8 a, .int .u8 m] w fun e w' => e = .returned (.tuple #[.int .i64 (20 + lastL a), .int .i64 0, .int .i64 0]) ∧ Below w.heap.size w w' := by
  have hm := and252_u8 a h0 h1
  obtain ⟨c, hc⟩ : ∃ c, (bits BinOp.and IntKind.u8 a 1 == 1) = c := ⟨_, rfl⟩
  go_enter Try.func41, Try.ntmps41
  go_wp2_with (first
    | (go_at_call 66; refine (register_any _ _ (by omega) (by omega) _).mono ?_; rintro e w' ⟨rfl, rfl⟩)
    | (go_at_call 68; refine (alone_rest a h0 h1 n0 n1 n2 n3 n4 n5 n6 n7 _).mono ?_; rintro e w1 ⟨rfl, hb⟩))
  go_ret3
  exact ⟨rfl, hb⟩

set_option maxRecDepth 100000 in
set_option maxHeartbeats 1000000 in
theorem guess_hi (a m : Int) (h0 : 0 ≤ a) (h1 : a ≤ 255) (h2 : 0 ≤ m) (h3 : m ≤ 255) (n0 : ¬ a = 160) (n1 : ¬ a = 162) (n2 : ¬ a = 228) (n3 : ¬ a = 230) (n4 : ¬ a = 233) (n5 : ¬ a = 235) (n6 : ¬ a = 232) (n7 : ¬ a = 195) (g : ¬ a < 64) (q4 : ¬ a / 16 = 4) (q5 : ¬ a / 16 = 5) (q7 : ¬ a / 16 = 7) (r0 : ¬ a = 128) (r1 : ¬ a = 134) (r2 : ¬ a = 135) (s0 : ¬ a / 8 = 22) (s1 : ¬ a / 8 = 23) (r3 : ¬ a = 198) (r4 : ¬ a = 208) (r5 : ¬ a = 209) (r6 : ¬ a = 246) (r7 : ¬ a = 254) (s2 : ¬ a / 4 = 34) (s3 : ¬ a / 4 * 4 = 136) (k3 : ¬ a = 39) (w : World) : Calls Try.prog 41 #[.int .u8 a, .int .u8 m] w fun e w' => e = .returned (.tuple #[.int .i64 (20 + lastL a), .int .i64 0, .int .i64 0]) ∧ Below w.heap.size w w' := by
  have hm := and252_u8 a h0 h1
  obtain ⟨c, hc⟩ : ∃ c, (bits BinOp.and IntKind.u8 a 1 == 1) = c := ⟨_, rfl⟩
  go_enter Try.func41, Try.ntmps41
  go_wp2_with (first
    | (go_at_call 66; refine (register_any _ _ (by omega) (by omega) _).mono ?_; rintro e w' ⟨rfl, rfl⟩)
    | (go_at_call 68; refine (alone_rest a h0 h1 n0 n1 n2 n3 n4 n5 n6 n7 _).mono ?_; rintro e w1 ⟨rfl, hb⟩))
  go_ret3
  exact ⟨rfl, hb⟩

theorem guess_any (a m : Int) (h0 : 0 ≤ a) (h1 : a ≤ 255) (h2 : 0 ≤ m) (h3 : m ≤ 255) (w : World) : Calls Try.prog 41 #[.int .u8 a, .int .u8 m] w fun e w' => e = .returned (.tuple #[.int .i64 (guessL a m).1, .int .i64 (guessL a m).2.1, .int .i64 (guessL a m).2.2]) ∧ Below w.heap.size w w' := by
  by_cases p39 : a = 39
  · subst p39
    exact guess_4 m h2 h3 w
  by_cases p128 : a = 128
  · subst p128
    exact guess_11 m h2 h3 w
  by_cases p134 : a = 134
  · subst p134
    exact guess_12 m h2 h3 w
  by_cases p135 : a = 135
  · subst p135
    exact guess_13 m h2 h3 w
  by_cases p198 : a = 198
  · subst p198
    exact guess_18 m h2 h3 w
  by_cases p208 : a = 208
  · subst p208
    exact guess_19 m h2 h3 w
  by_cases p209 : a = 209
  · subst p209
    exact guess_20 m h2 h3 w
  by_cases p246 : a = 246
  · subst p246
    exact guess_21 m h2 h3 w
  by_cases p254 : a = 254
  · subst p254
    by_cases g : m / 64 = 0
    · have e : guessL 254 m = (10 + m / 8 % 8, 17, 0) := by simp [guessL, g]
      rw [e]; exact guess_22 m h2 h3 g w
    · have e : guessL 254 m = (10 + m / 8 % 8, regL m false, 0) := by simp [guessL, g]
      rw [e]; exact guess_23 m h2 h3 g w
  by_cases p160 : a = 160
  · subst p160
    exact guess_26 m h2 h3 w
  by_cases p162 : a = 162
  · subst p162
    exact guess_27 m h2 h3 w
  by_cases p228 : a = 228
  · subst p228
    exact guess_28 m h2 h3 w
  by_cases p230 : a = 230
  · subst p230
    exact guess_29 m h2 h3 w
  by_cases p233 : a = 233
  · subst p233
    exact guess_30 m h2 h3 w
  by_cases p235 : a = 235
  · subst p235
    exact guess_31 m h2 h3 w
  by_cases p232 : a = 232
  · subst p232
    exact guess_32 m h2 h3 w
  by_cases p195 : a = 195
  · subst p195
    exact guess_33 m h2 h3 w
  by_cases g : a < 64
  · have hk : a % 8 = 0 ∨ a % 8 = 1 ∨ a % 8 = 2 ∨ a % 8 = 3 ∨ a % 8 = 4 ∨ a % 8 = 5 ∨ a % 8 = 6 ∨ a % 8 = 7 := by omega
    have q4 : ¬ a / 16 = 4 := by omega
    have q5 : ¬ a / 16 = 5 := by omega
    have q7 : ¬ a / 16 = 7 := by omega
    have s0 : ¬ a / 8 = 22 := by omega
    have s1 : ¬ a / 8 = 23 := by omega
    have s2 : ¬ a / 4 = 34 := by omega
    rcases hk with k | k | k | k | k | k | k | k
    · have e : guessL a m = (a / 8 + 2, regL m false, regL (m / 8) false) := by have ka : ¬ a % 2 = 1 := (by omega); simp [guessL, *]
      rw [e]; exact guess_0 a m h0 h1 h2 h3 g k w
    · have e : guessL a m = (a / 8 + 2, regL m true, regL (m / 8) true) := by have ka : a % 2 = 1 := (by omega); simp [guessL, *]
      rw [e]; exact guess_1 a m h0 h1 h2 h3 g k w
    · have e : guessL a m = (a / 8 + 2, regL (m / 8) false, 17) := by have ka : ¬ a % 2 = 1 := (by omega); simp [guessL, *]
      rw [e]; exact guess_2 a m h0 h1 h2 h3 g k w
    · have e : guessL a m = (20 + lastL a, 0, 0) := by simp [guessL, aloneL, lastL, *]
      rw [e]; exact guess_lo3 a m h0 h1 h2 h3 p160 p162 p228 p230 p233 p235 p232 p195 g k w
    · have e : guessL a m = (a / 8 + 2, 1, 20) := by simp [guessL, *]
      rw [e]; exact guess_3 a m h0 h1 h2 h3 g k w
    · have e : guessL a m = (20 + lastL a, 0, 0) := by simp [guessL, aloneL, lastL, *]
      rw [e]; exact guess_lo5 a m h0 h1 h2 h3 p160 p162 p228 p230 p233 p235 p232 p195 g k w
    · have e : guessL a m = (20 + lastL a, 0, 0) := by simp [guessL, aloneL, lastL, *]
      rw [e]; exact guess_lo6 a m h0 h1 h2 h3 p160 p162 p228 p230 p233 p235 p232 p195 g k w
    · have e : guessL a m = (20 + lastL a, 0, 0) := by simp [guessL, aloneL, lastL, *]
      rw [e]; exact guess_lo7 a m h0 h1 h2 h3 p160 p162 p228 p230 p233 p235 p232 p195 g k p39 w
  by_cases q5 : a / 16 = 4
  · have ha : a % 2 = 0 ∨ a % 2 = 1 := by omega
    have e : guessL a m = (10 + a / 8 % 2, regL a true, 0) := by simp [guessL, *]
    rw [e]
    rcases ha with ka | ka
    · exact guess_5 a m h0 h1 h2 h3 q5 (by omega) w
    · exact guess_6 a m h0 h1 h2 h3 q5 ka w
  by_cases q7 : a / 16 = 5
  · have ha : a % 2 = 0 ∨ a % 2 = 1 := by omega
    have e : guessL a m = (18 + a / 8 % 2, regL a true, 0) := by simp [guessL, *]
    rw [e]
    rcases ha with ka | ka
    · exact guess_7 a m h0 h1 h2 h3 q7 (by omega) w
    · exact guess_8 a m h0 h1 h2 h3 q7 ka w
  by_cases q9 : a / 16 = 7
  · have ha : a % 2 = 0 ∨ a % 2 = 1 := by omega
    have e : guessL a m = (40 + a % 16, 20, 0) := by simp [guessL, *]
    rw [e]
    rcases ha with ka | ka
    · exact guess_9 a m h0 h1 h2 h3 q9 (by omega) w
    · exact guess_10 a m h0 h1 h2 h3 q9 ka w
  by_cases q14 : a / 8 = 22
  · have ha : a % 2 = 0 ∨ a % 2 = 1 := by omega
    have e : guessL a m = (1, regL a false, 20) := by simp [guessL, *]
    rw [e]
    rcases ha with ka | ka
    · exact guess_14 a m h0 h1 h2 h3 q14 (by omega) w
    · exact guess_15 a m h0 h1 h2 h3 q14 ka w
  by_cases q16 : a / 8 = 23
  · have ha : a % 2 = 0 ∨ a % 2 = 1 := by omega
    have e : guessL a m = (1, regL a true, 20) := by simp [guessL, *]
    rw [e]
    rcases ha with ka | ka
    · exact guess_16 a m h0 h1 h2 h3 q16 (by omega) w
    · exact guess_17 a m h0 h1 h2 h3 q16 ka w
  by_cases q24 : a / 4 = 34
  · have ha : a % 2 = 0 ∨ a % 2 = 1 := by omega
    rcases ha with ka | ka
    · have e : guessL a m = movedL a m (regL (m / 8) false) (regL m false) := by simp [guessL, *]
      rw [e]; exact guess_24 a m h0 h1 h2 h3 q24 (by omega) w
    · have e : guessL a m = movedL a m (regL (m / 8) true) (regL m true) := by simp [guessL, *]
      rw [e]; exact guess_25 a m h0 h1 h2 h3 q24 ka w
  have e : guessL a m = (20 + lastL a, 0, 0) := by simp [guessL, aloneL, lastL, *]
  rw [e]; exact guess_hi a m h0 h1 h2 h3 p160 p162 p228 p230 p233 p235 p232 p195 g q5 q7 q9 p128 p134 p135 q14 q16 p198 p208 p209 p246 p254 q24 (by omega) p39 w

end Go.Proofs.Ytbhkndblolegaaa
