/- Plain functions of layer 8: the heads of instructions, as numbers and lists; no program in sight. -/
import Derived.Test.YtbhkndblolegaaaSp
namespace Go.Proofs.Ytbhkndblolegaaa

def wideL (c : Int) : Int := if 1 ≤ c ∧ c ≤ 8 then 8 else if 9 ≤ c ∧ c ≤ 16 then 16 else 0
def numL (c : Int) : Int := (c - 1) % 8
theorem numL_lo (c : Int) : 0 ≤ numL c := by unfold numL; omega
theorem numL_hi (c : Int) : numL c ≤ 7 := by unfold numL; omega
theorem wide_cases (c : Int) : (wideL c = 8 ∧ 1 ≤ c ∧ c ≤ 8) ∨ (wideL c = 16 ∧ 9 ≤ c ∧ c ≤ 16) ∨ (wideL c = 0 ∧ (c ≤ 0 ∨ 17 ≤ c)) := by
  unfold wideL; split
  · left; omega
  · split
    · right; left; omega
    · right; right; omega

def placesL (d s : Int) : List Int × Int :=
  if wideL d == 8 && s == 17 then ([138, numL d * 8 + 7], 0)
  else if d == 17 && wideL s == 8 then ([136, numL s * 8 + 7], 0)
  else if d == 1 && s == 18 then ([138, 4], 0)
  else if d == 18 && s == 1 then ([136, 4], 0)
  else if d == 1 && s == 19 then ([160], 2)
  else if d == 19 && s == 1 then ([162], 2)
  else if wideL d == 16 && !(d == 9) && s == 19 then ([139, numL d * 8 + 6], 2)
  else if d == 19 && wideL s == 16 && !(s == 9) then ([137, numL s * 8 + 6], 2)
  else if wideL d == 8 && s == 20 then ([176 + numL d], 1)
  else if wideL d == 16 && s == 20 then ([184 + numL d], 2)
  else if d == 17 && s == 20 then ([198, 7], 1)
  else ([], 0)

theorem or176 (x : Int) (h0 : 0 ≤ x) (h1 : x ≤ 7) : bits BinOp.or IntKind.u8 176 x = 176 + x :=
  byte_cases (P := fun x => x ≤ 7 → bits BinOp.or IntKind.u8 176 x = 176 + x) (by decide +kernel) x h0 (by omega) h1
theorem or184 (x : Int) (h0 : 0 ≤ x) (h1 : x ≤ 7) : bits BinOp.or IntKind.u8 184 x = 184 + x :=
  byte_cases (P := fun x => x ≤ 7 → bits BinOp.or IntKind.u8 184 x = 184 + x) (by decide +kernel) x h0 (by omega) h1
theorem and7 (c : Int) : bits BinOp.and IntKind.u8 ((c - 1) % 256) 7 = numL c := by
  have h := byte_cases (P := fun x => bits BinOp.and IntKind.u8 x 7 = x % 8) (by decide +kernel) ((c - 1) % 256) (by omega) (by omega)
  rw [h]; unfold numL; omega
theorem pair_or (x y : Int) (h0 : 0 ≤ x) (h1 : x ≤ 7) (h2 : 0 ≤ y) (h3 : y ≤ 7) : bits BinOp.or IntKind.u8 (x * 8) y = x * 8 + y ∧ bits BinOp.or IntKind.u8 (bits BinOp.or IntKind.u8 192 (x * 8)) y = 192 + x * 8 + y := by
  have h : ∀ a b : Fin 8, bits BinOp.or IntKind.u8 ((a.val : Int) * 8) (b.val : Int) = (a.val : Int) * 8 + (b.val : Int) ∧ bits BinOp.or IntKind.u8 (bits BinOp.or IntKind.u8 192 ((a.val : Int) * 8)) (b.val : Int) = 192 + (a.val : Int) * 8 + (b.val : Int) := by decide +kernel
  have g := h ⟨x.toNat, by omega⟩ ⟨y.toNat, by omega⟩
  have e1 : ((x.toNat : Nat) : Int) = x := by omega
  have e2 : ((y.toNat : Nat) : Int) = y := by omega
  simp only [e1, e2] at g
  exact g

def sameL (d s : Int) : Bool := !(wideL d == 0) && wideL d == wideL s
def wb (d : Int) : Int := if wideL d == 16 then 1 else 0
def twoL (op d s : Int) : List Int × Int :=
  if op == 1 && sameL d s then ([136 + wb d, 192 + numL s * 8 + numL d], 0)
  else if op == 1 then placesL d s
  else if op == 17 && sameL d s && !(d == 9) && !(s == 9) then ([134 + wb d, 192 + numL s * 8 + numL d], 0)
  else if op == 30 && d == 1 && s == 20 then ([228], 1)
  else if op == 31 && d == 20 && s == 1 then ([230], 1)
  else if decide (op < 2) || decide (9 < op) then ([], 0)
  else if sameL d s then ([(op - 2) * 8 + wb d, 192 + numL s * 8 + numL d], 0)
  else if wideL d == 8 && s == 17 then ([(op - 2) * 8 + 2, numL d * 8 + 7], 0)
  else if d == 1 && s == 20 then ([(op - 2) * 8 + 4], 1)
  else if wideL d == 8 && s == 20 then ([128, 192 + (op - 2) * 8 + numL d], 1)
  else ([], 0)
def oneL (op d : Int) : List Int × Int :=
  if decide (op ≤ 11) && d == 17 then ([254, (op - 10) * 8 + 7], 0)
  else if decide (op ≤ 11) && wideL d == 8 then ([254, 192 + (op - 10) * 8 + numL d], 0)
  else if decide (op ≤ 11) && wideL d == 16 then ([64 + (op - 10) * 8 + numL d], 0)
  else if decide (op ≤ 15) && !(wideL d == 0) then ([208 + wb d, 192 + (op - 12) * 8 + numL d], 0)
  else if op == 16 && wideL d == 8 then ([246, 208 + numL d], 0)
  else if decide (18 ≤ op) && wideL d == 16 then ([80 + (op - 18) * 8 + numL d], 0)
  else ([], 0)
def aloneB (op : Int) : Int := ([159, 158, 39, 245, 249, 248, 251, 250, 244, 144] : List Int).getD (op - 20).toNat 0
def headsL (op d s : Int) : List Int × Int :=
  if decide (op < 1) then ([], 0)
  else if !(s == 0) || op == 1 || op == 17 then twoL op d s
  else if decide (10 ≤ op) && decide (op ≤ 19) then oneL op d
  else if d == 0 && decide (20 ≤ op) && decide (op ≤ 29) then ([aloneB op], 0)
  else if d == 0 && op == 35 then ([195], 0)
  else if !(d == 20) then ([], 0)
  else if op == 32 then ([233], 2)
  else if op == 33 then ([235], 3)
  else if op == 34 then ([232], 2)
  else if decide (42 ≤ op) && decide (op ≤ 51) && !(op == 46) && !(op == 47) then ([112 + (op - 40)], 3)
  else ([], 0)

theorem andk (op : Int) (h0 : 2 ≤ op) (h1 : op ≤ 9) : bits BinOp.and IntKind.u8 (op - 2) 7 = op - 2 := by
  have h := byte_cases (P := fun x => bits BinOp.and IntKind.u8 x 7 = x % 8) (by decide +kernel) (op - 2) (by omega) (by omega)
  rw [h]; omega
theorem ork (k : Int) (h0 : 0 ≤ k) (h1 : k ≤ 7) : bits BinOp.or IntKind.u8 (k * 8) 0 = k * 8 ∧ bits BinOp.or IntKind.u8 (k * 8) 1 = k * 8 + 1 ∧ bits BinOp.or IntKind.u8 (k * 8) 2 = k * 8 + 2 ∧ bits BinOp.or IntKind.u8 (k * 8) 4 = k * 8 + 4 :=
  byte_cases (P := fun k => k ≤ 7 → bits BinOp.or IntKind.u8 (k * 8) 0 = k * 8 ∧ bits BinOp.or IntKind.u8 (k * 8) 1 = k * 8 + 1 ∧ bits BinOp.or IntKind.u8 (k * 8) 2 = k * 8 + 2 ∧ bits BinOp.or IntKind.u8 (k * 8) 4 = k * 8 + 4) (by decide +kernel) k h0 (by omega) h1
theorem or_consts : bits BinOp.or IntKind.u8 136 0 = 136 ∧ bits BinOp.or IntKind.u8 136 1 = 137 ∧ bits BinOp.or IntKind.u8 134 0 = 134 ∧ bits BinOp.or IntKind.u8 134 1 = 135 := by decide +kernel
theorem or64 (x : Int) (h0 : 0 ≤ x) (h1 : x ≤ 7) : bits BinOp.or IntKind.u8 64 x = 64 + x ∧ bits BinOp.or IntKind.u8 72 x = 72 + x ∧ bits BinOp.or IntKind.u8 80 x = 80 + x ∧ bits BinOp.or IntKind.u8 88 x = 88 + x :=
  byte_cases (P := fun x => x ≤ 7 → bits BinOp.or IntKind.u8 64 x = 64 + x ∧ bits BinOp.or IntKind.u8 72 x = 72 + x ∧ bits BinOp.or IntKind.u8 80 x = 80 + x ∧ bits BinOp.or IntKind.u8 88 x = 88 + x) (by decide +kernel) x h0 (by omega) h1

end Go.Proofs.Ytbhkndblolegaaa
