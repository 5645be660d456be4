/- The walk of the law WordBytes: whatever comes in, the law returns true, and nothing that was there has changed. -/
import Derived.Test.YtpoaiojlaijoiaaLa
import Derived.Deep.RegionHeld3
namespace Go.Proofs.Ytpoaiojlaijoiaa
open Go.RowKit
set_option linter.unusedVariables false
set_option linter.unusedSimpArgs false

theorem psw_lo (s z x p c : Bool) : 0 ≤ pswV s z x p c := by cases s <;> cases z <;> cases x <;> cases p <;> cases c <;> decide
theorem psw_hi (s z x p c : Bool) : pswV s z x p c ≤ 255 := by cases s <;> cases z <;> cases x <;> cases p <;> cases c <;> decide
theorem of_psw (s z x p c : Bool) (w : World) :
    Calls Try.prog 35 #[.int .u8 (pswV s z x p c)] w fun e w' => e = .returned (.agg #[.bool s, .bool z, .bool x, .bool p, .bool c]) ∧ Below w.heap.size w w' := by
  have g := of_any (pswV s z x p c) (psw_lo s z x p c) (psw_hi s z x p c) w
  have e1 : sgn (pswV s z x p c) = s := by cases s <;> cases z <;> cases x <;> cases p <;> cases c <;> decide
  have e2 : (pswV s z x p c / 64 % 2 == 1) = z := by cases s <;> cases z <;> cases x <;> cases p <;> cases c <;> decide
  have e3 : (pswV s z x p c / 16 % 2 == 1) = x := by cases s <;> cases z <;> cases x <;> cases p <;> cases c <;> decide
  have e4 : (pswV s z x p c / 4 % 2 == 1) = p := by cases s <;> cases z <;> cases x <;> cases p <;> cases c <;> decide
  have e5 : (pswV s z x p c % 2 == 1) = c := by cases s <;> cases z <;> cases x <;> cases p <;> cases c <;> decide
  rw [e1, e2, e3, e4, e5] at g
  exact g
theorem par_b (a : Int) (h0 : 0 ≤ a) (h1 : a ≤ 255) (w : World) : Calls Try.prog 37 #[.int .u8 a] w fun e w' => e = .returned (.bool (par a)) ∧ Below w.heap.size w w' :=
  (par_any a h0 h1 w).mono fun _ _ ⟨h1, h2⟩ => ⟨h1, h2 ▸ Below.refl _ _⟩
theorem rpar_b (a : Int) (h0 : 0 ≤ a) (h1 : a ≤ 255) (w : World) : Calls Try.prog 38 #[.int .u8 a] w fun e w' => e = .returned (.bool (par a)) ∧ Below w.heap.size w w' :=
  (rpar_any a h0 h1 w).mono fun _ _ ⟨h1, h2⟩ => ⟨h1, h2 ▸ Below.refl _ _⟩
theorem of_pair (b : Int) (h0 : 0 ≤ b) (h1 : b ≤ 255) : ∃ (s z x p c : Bool),
    (∀ w, Calls Try.prog 35 #[.int .u8 b] w fun e w' => e = .returned (.agg #[.bool s, .bool z, .bool x, .bool p, .bool c]) ∧ Below w.heap.size w w') ∧
    (∀ w, Calls Try.prog 36 #[.int .u8 b] w fun e w' => e = .returned (.agg #[.bool s, .bool z, .bool x, .bool p, .bool c]) ∧ Below w.heap.size w w') :=
  ⟨_, _, _, _, _, fun w => of_any b h0 h1 w, fun w => rof_any b h0 h1 w⟩

set_option maxHeartbeats 2000000 in
theorem wordBytes_any (fs fz fx fp fc : Bool) (b : Int) (h0 : 0 ≤ b) (h1 : b ≤ 255) (w : World) :
    Calls Try.prog 9 #[.agg #[.bool fs, .bool fz, .bool fx, .bool fp, .bool fc], .int .u8 b] w fun e w' => e = .returned (.bool true) ∧ Below w.heap.size w w' := by
  obtain ⟨s, z, x, p, c, q1, q2⟩ := of_pair b h0 h1
  have Q1 := Lib.hid q1
  have Q2 := Lib.hid q2
  clear q1 q2
  go_enter Try.func9, Try.ntmps9
  go_wp2_with fail
  obtain ⟨W, hW⟩ : ∃ W, W = w.alloc (Obj.cells #[Value.bool fs, Value.bool fz, Value.bool fx, Value.bool fp, Value.bool fc] 30) := ⟨_, rfl⟩
  have o0 := (own_new w #[Value.bool fs, Value.bool fz, Value.bool fx, Value.bool fp, Value.bool fc] 30).five
  have bW : Below w.heap.size w W := by
    rw [hW]; exact balloc (Below.refl _ _) _
  rw [← hW] at o0 ⊢
  clear hW
  go_region_held3 (fun w' => (w'.cell? ⟨w.heap.size, 0, none⟩ = some (.bool fs) ∧ w'.cell? ⟨w.heap.size, 1, none⟩ = some (.bool fz) ∧ w'.cell? ⟨w.heap.size, 2, none⟩ = some (.bool fx) ∧ w'.cell? ⟨w.heap.size, 3, none⟩ = some (.bool fp) ∧ w'.cell? ⟨w.heap.size, 4, none⟩ = some (.bool fc)) ∧ Below w.heap.size w w')
    (((try dsimp only); apply And.intro; (focus (first | (go_split_ands; refine ⟨?_, ?_, ?_, ?_, ?_⟩ <;> (refine cell_below ?_ (by assumption); assumption)) | go_keep)); (first | exact bW | exact bdrew bW | (go_split_ands; (refine bthen (by assumption) ?_; assumption)))))
    (first
      | (go_simp; go_at_call 28; refine (own_any _ _ _ _ _ _).mono ?_; rintro e wn ⟨rfl, hbn⟩)
      | (go_simp; go_at_call 33; refine (psw_any _ _ _ _ _ _).mono ?_; rintro e wn ⟨rfl, hbn⟩)
      | (go_simp; go_at_call 34; refine (rpsw_any _ _ _ _ _ _).mono ?_; rintro e wn ⟨rfl, hbn⟩)
      | (go_simp; go_at_call 35; with_reducible refine (of_psw _ _ _ _ _ _).mono ?_; rintro e wn ⟨rfl, hbn⟩)
      | (go_simp; go_at_call 35; with_reducible refine (Q1.out _).mono ?_; rintro e wn ⟨rfl, hbn⟩)
      | (go_simp; go_at_call 36; refine (Q2.out _).mono ?_; rintro e wn ⟨rfl, hbn⟩)
      | (go_simp; go_at_call 37; refine (par_b _ h0 h1 _).mono ?_; rintro e wn ⟨rfl, hbn⟩)
      | (go_simp; go_at_call 38; refine (rpar_b _ h0 h1 _).mono ?_; rintro e wn ⟨rfl, hbn⟩)
      | (go_simp; go_at_call 21; refine (back_any _ _ _ _ _ _).mono ?_; rintro e wn ⟨rfl, hbn⟩)
      | (go_simp; go_at_call 12; refine (alive_any _).mono ?_; rintro e wn ⟨rfl, hbn⟩))
  go_wp2
  go_ret
  exact ⟨rfl, by go_split_ands; assumption⟩

end Go.Proofs.Ytpoaiojlaijoiaa
