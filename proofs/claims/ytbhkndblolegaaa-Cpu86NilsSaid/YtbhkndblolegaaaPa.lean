/- Plain facts on bytes and flags: sign, parity and bits, by cases or linear arithmetic; no program in sight. Plain functions of layer 8: the heads of instructions, as numbers and lists; no program in sight. Bits of numbers of 16 and of 32 bits, as numbers' bits. Plain model of layer 11's machine: registers and flags, and what its functions reckon; no program in sight. Plain law of a machine's memory: bytes by places, the later ones over the earlier; no program in sight. Plain functions of layer 8: an instruction guessed by its first two bytes. -/
import Derived.IntWalk
import Derived.Laws.BitsAllLaws
import Derived.Laws.Closers25b
namespace Go.Proofs.Ytbhkndblolegaaa

def sgn (n : Int) : Bool := decide (128 ≤ n)
def popc (n : Int) : Int := n % 2 + n / 2 % 2 + n / 4 % 2 + n / 8 % 2 + n / 16 % 2 + n / 32 % 2 + n / 64 % 2 + n / 128 % 2
def par (n : Int) : Bool := popc n % 2 == 0
def cb (c : Bool) : Int := if c then 1 else 0
theorem cb_lo (c : Bool) : 0 ≤ cb c := by cases c <;> decide
theorem cb_hi (c : Bool) : cb c ≤ 1 := by cases c <;> decide
theorem popc_lo (n : Int) : 0 ≤ popc n := by unfold popc; omega
theorem popc_hi (n : Int) : popc n ≤ 8 := by unfold popc; omega

theorem popc_and (n : Int) : (bits BinOp.and IntKind.i64 (popc n) 1 == 0) = par n := by
  have h : ∀ k : Fin 9, (bits BinOp.and IntKind.i64 (k.val : Int) 1 == 0) = ((k.val : Int) % 2 == 0) := by decide +kernel
  have h1 := popc_lo n
  have h2 := popc_hi n
  have e : (((popc n).toNat : Nat) : Int) = popc n := by omega
  have := h ⟨(popc n).toNat, by omega⟩
  simp only [e] at this
  exact this

theorem byte_cases {P : Int → Prop} (h : ∀ n : Fin 256, P (n.val : Int)) (a : Int) (h0 : 0 ≤ a) (h1 : a ≤ 255) : P a := by
  have := h ⟨a.toNat, by omega⟩
  have e : ((a.toNat : Nat) : Int) = a := by omega
  simpa [e] using this

theorem sgn_and (a : Int) (h0 : 0 ≤ a) (h1 : a ≤ 255) : (bits BinOp.and IntKind.u8 a 128 != 0) = sgn a :=
  byte_cases (P := fun a => (bits BinOp.and IntKind.u8 a 128 != 0) = sgn a) (by decide +kernel) a h0 h1
theorem b64_and (a : Int) (h0 : 0 ≤ a) (h1 : a ≤ 255) : (bits BinOp.and IntKind.u8 a 64 != 0) = (a / 64 % 2 == 1) :=
  byte_cases (P := fun a => (bits BinOp.and IntKind.u8 a 64 != 0) = (a / 64 % 2 == 1)) (by decide +kernel) a h0 h1
theorem b16_and (a : Int) (h0 : 0 ≤ a) (h1 : a ≤ 255) : (bits BinOp.and IntKind.u8 a 16 != 0) = (a / 16 % 2 == 1) :=
  byte_cases (P := fun a => (bits BinOp.and IntKind.u8 a 16 != 0) = (a / 16 % 2 == 1)) (by decide +kernel) a h0 h1
theorem b8_and (a : Int) (h0 : 0 ≤ a) (h1 : a ≤ 255) : (bits BinOp.and IntKind.u8 a 8 != 0) = (a / 8 % 2 == 1) :=
  byte_cases (P := fun a => (bits BinOp.and IntKind.u8 a 8 != 0) = (a / 8 % 2 == 1)) (by decide +kernel) a h0 h1
theorem b4_and (a : Int) (h0 : 0 ≤ a) (h1 : a ≤ 255) : (bits BinOp.and IntKind.u8 a 4 != 0) = (a / 4 % 2 == 1) :=
  byte_cases (P := fun a => (bits BinOp.and IntKind.u8 a 4 != 0) = (a / 4 % 2 == 1)) (by decide +kernel) a h0 h1

theorem b1_and (a : Int) (h0 : 0 ≤ a) (h1 : a ≤ 255) : (bits BinOp.and IntKind.u8 a 1 != 0) = (a % 2 == 1) :=
  byte_cases (P := fun a => (bits BinOp.and IntKind.u8 a 1 != 0) = (a % 2 == 1)) (by decide +kernel) a h0 h1
def orIf (is : Bool) (v m : Int) : Int := if is then bits .or .u8 v m else v
def pswV (s z x p c : Bool) : Int := 128 * cb s + 64 * cb z + 16 * cb x + 4 * cb p + 2 + cb c
theorem orIf_psw (s z x p c : Bool) : orIf c (orIf p (orIf x (orIf z (orIf s 2 128) 64) 16) 4) 1 = pswV s z x p c := by
  cases s <;> cases z <;> cases x <;> cases p <;> cases c <;> decide +kernel
theorem rotl_or (a : Int) (h0 : 0 ≤ a) (h1 : a ≤ 255) : bits BinOp.or IntKind.u8 (a * 2 % 256) (a / 128) = (a * 2 + a / 128) % 256 :=
  byte_cases (P := fun a => bits BinOp.or IntKind.u8 (a * 2 % 256) (a / 128) = (a * 2 + a / 128) % 256) (by decide +kernel) a h0 h1
theorem rotr_or (a : Int) (h0 : 0 ≤ a) (h1 : a ≤ 255) : bits BinOp.or IntKind.u8 (a * 128 % 256) (a / 2) = a / 2 + a % 2 * 128 :=
  byte_cases (P := fun a => bits BinOp.or IntKind.u8 (a * 128 % 256) (a / 2) = a / 2 + a % 2 * 128) (by decide +kernel) a h0 h1
theorem shl_or (a : Int) (c : Bool) (h0 : 0 ≤ a) (h1 : a ≤ 255) : bits BinOp.or IntKind.u8 (a * 2 % 256) (cb c) = (a * 2 + cb c) % 256 := by
  cases c
  · exact byte_cases (P := fun a => bits BinOp.or IntKind.u8 (a * 2 % 256) (cb false) = (a * 2 + cb false) % 256) (by decide +kernel) a h0 h1
  · exact byte_cases (P := fun a => bits BinOp.or IntKind.u8 (a * 2 % 256) (cb true) = (a * 2 + cb true) % 256) (by decide +kernel) a h0 h1
theorem shr_or (a : Int) (c : Bool) (h0 : 0 ≤ a) (h1 : a ≤ 255) : bits BinOp.or IntKind.u8 (a / 2) (cb c * 128) = a / 2 + 128 * cb c := by
  cases c
  · exact byte_cases (P := fun a => bits BinOp.or IntKind.u8 (a / 2) (cb false * 128) = a / 2 + 128 * cb false) (by decide +kernel) a h0 h1
  · exact byte_cases (P := fun a => bits BinOp.or IntKind.u8 (a / 2) (cb true * 128) = a / 2 + 128 * cb true) (by decide +kernel) a h0 h1
def daaL (a : Int) (x : Bool) : Int := if 9 < a % 16 ∨ x = true then 6 else 0
def daaC (a : Int) (x c : Bool) : Bool := decide (9 < (a + daaL a x) / 16) || c
def daaV (a : Int) (x c : Bool) : Int := (a + daaL a x + 96 * cb (daaC a x c)) % 256
def popl : Nat → Int → Int
  | 0, _ => 0
  | k + 1, a => popl k a + a / 2 ^ k % 2
def parl (k : Nat) (a : Int) : Bool := popl k a % 2 == 0
theorem popl_test (k : Nat) (a : Int) (h0 : 0 ≤ a) (h1 : a ≤ 255) : (bits BinOp.and IntKind.u8 (a / 2 ^ k) 1 == 1) = (a / 2 ^ k % 2 == 1) := by
  have hp : (0 : Int) < 2 ^ k := Int.pow_pos (by decide)
  have g0 : 0 ≤ a / 2 ^ k := Int.ediv_nonneg h0 (Int.le_of_lt hp)
  have g1 : a / 2 ^ k ≤ 255 := Int.le_trans (Int.ediv_le_self _ h0) h1
  exact byte_cases (P := fun x => (bits BinOp.and IntKind.u8 x 1 == 1) = (x % 2 == 1)) (by decide +kernel) _ g0 g1
theorem parl_8 (a : Int) : parl 8 a = par a := by simp [parl, par, popl, popc]
theorem parl_succ (k : Nat) (a : Int) : parl (k + 1) a = if a / 2 ^ k % 2 = 1 then !parl k a else parl k a := by
  unfold parl
  rw [popl]
  have h : a / 2 ^ k % 2 = 0 ∨ a / 2 ^ k % 2 = 1 := by omega
  have q : popl k a % 2 = 0 ∨ popl k a % 2 = 1 := by omega
  rcases h with h | h <;> rcases q with q | q <;> simp [h, q, Int.add_emod]
theorem i64_and_nat (a b : Nat) (ha : a < 9223372036854775808) (hb : b < 9223372036854775808) : bits .and .i64 (a : Int) (b : Int) = ((a &&& b : Nat) : Int) := by
  have hx : a &&& b < 2 ^ 63 := Nat.and_lt_two_pow _ (by omega)
  show IntKind.i64.wrap ((BitVec.ofInt 64 (a : Int) &&& BitVec.ofInt 64 (b : Int)).toNat : Int) = _
  rw [BitVec.toNat_and, BitVec.ofInt_natCast, BitVec.toNat_ofNat, BitVec.ofInt_natCast, BitVec.toNat_ofNat, Nat.mod_eq_of_lt (by omega : a < 2 ^ 64), Nat.mod_eq_of_lt (by omega : b < 2 ^ 64), IntKind.wrap_i64]
  omega
theorem and255 (n : Int) (h0 : 0 ≤ n) (h1 : n < 9223372036854775808) : bits .and .i64 n 255 = n % 256 := by
  obtain ⟨m, rfl⟩ := Int.eq_ofNat_of_zero_le h0
  rw [show (255 : Int) = ((255 : Nat) : Int) from rfl, i64_and_nat m 255 (by omega) (by omega)]
  rw [show m &&& 255 = m % 256 from Nat.and_two_pow_sub_one_eq_mod m 8]
  simp
theorem and65535 (n : Int) (h0 : 0 ≤ n) (h1 : n < 9223372036854775808) : bits .and .i64 n 65535 = n % 65536 := by
  obtain ⟨m, rfl⟩ := Int.eq_ofNat_of_zero_le h0
  rw [show (65535 : Int) = ((65535 : Nat) : Int) from rfl, i64_and_nat m 65535 (by omega) (by omega)]
  rw [show m &&& 65535 = m % 65536 from Nat.and_two_pow_sub_one_eq_mod m 16]
  simp
theorem xor_max (a : Int) (h0 : 0 ≤ a) (h1 : a ≤ 255) : bits BinOp.xor IntKind.u8 IntKind.u8.max a = 255 - a :=
  byte_cases (P := fun a => bits BinOp.xor IntKind.u8 IntKind.u8.max a = 255 - a) (by decide +kernel) a h0 h1
theorem cb_not (c : Bool) : cb (!c) = 1 - cb c := by cases c <;> decide

end Go.Proofs.Ytbhkndblolegaaa

namespace Go.Proofs.Ytbhkndblolegaaa

def wideL (c : Int) : Int := if 1 ≤ c ∧ c ≤ 8 then 8 else if 9 ≤ c ∧ c ≤ 16 then 16 else 0
def numL (c : Int) : Int := (c - 1) % 8
theorem numL_lo (c : Int) : 0 ≤ numL c := by unfold numL; omega
theorem numL_hi (c : Int) : numL c ≤ 7 := by unfold numL; omega
theorem wide_cases (c : Int) : (wideL c = 8 ∧ 1 ≤ c ∧ c ≤ 8) ∨ (wideL c = 16 ∧ 9 ≤ c ∧ c ≤ 16) ∨ (wideL c = 0 ∧ (c ≤ 0 ∨ 17 ≤ c)) := by
  unfold wideL; split
  · left; omega
  · split
    · right; left; omega
    · right; right; omega

def placesL (d s : Int) : List Int × Int :=
  if wideL d == 8 && s == 17 then ([138, numL d * 8 + 7], 0)
  else if d == 17 && wideL s == 8 then ([136, numL s * 8 + 7], 0)
  else if d == 1 && s == 18 then ([138, 4], 0)
  else if d == 18 && s == 1 then ([136, 4], 0)
  else if d == 1 && s == 19 then ([160], 2)
  else if d == 19 && s == 1 then ([162], 2)
  else if wideL d == 16 && !(d == 9) && s == 19 then ([139, numL d * 8 + 6], 2)
  else if d == 19 && wideL s == 16 && !(s == 9) then ([137, numL s * 8 + 6], 2)
  else if wideL d == 8 && s == 20 then ([176 + numL d], 1)
  else if wideL d == 16 && s == 20 then ([184 + numL d], 2)
  else if d == 17 && s == 20 then ([198, 7], 1)
  else ([], 0)

theorem or176 (x : Int) (h0 : 0 ≤ x) (h1 : x ≤ 7) : bits BinOp.or IntKind.u8 176 x = 176 + x :=
  byte_cases (P := fun x => x ≤ 7 → bits BinOp.or IntKind.u8 176 x = 176 + x) (by decide +kernel) x h0 (by omega) h1
theorem or184 (x : Int) (h0 : 0 ≤ x) (h1 : x ≤ 7) : bits BinOp.or IntKind.u8 184 x = 184 + x :=
  byte_cases (P := fun x => x ≤ 7 → bits BinOp.or IntKind.u8 184 x = 184 + x) (by decide +kernel) x h0 (by omega) h1
theorem and7 (c : Int) : bits BinOp.and IntKind.u8 ((c - 1) % 256) 7 = numL c := by
  have h := byte_cases (P := fun x => bits BinOp.and IntKind.u8 x 7 = x % 8) (by decide +kernel) ((c - 1) % 256) (by omega) (by omega)
  rw [h]; unfold numL; omega
theorem pair_or (x y : Int) (h0 : 0 ≤ x) (h1 : x ≤ 7) (h2 : 0 ≤ y) (h3 : y ≤ 7) : bits BinOp.or IntKind.u8 (x * 8) y = x * 8 + y ∧ bits BinOp.or IntKind.u8 (bits BinOp.or IntKind.u8 192 (x * 8)) y = 192 + x * 8 + y := by
  have h : ∀ a b : Fin 8, bits BinOp.or IntKind.u8 ((a.val : Int) * 8) (b.val : Int) = (a.val : Int) * 8 + (b.val : Int) ∧ bits BinOp.or IntKind.u8 (bits BinOp.or IntKind.u8 192 ((a.val : Int) * 8)) (b.val : Int) = 192 + (a.val : Int) * 8 + (b.val : Int) := by decide +kernel
  have g := h ⟨x.toNat, by omega⟩ ⟨y.toNat, by omega⟩
  have e1 : ((x.toNat : Nat) : Int) = x := by omega
  have e2 : ((y.toNat : Nat) : Int) = y := by omega
  simp only [e1, e2] at g
  exact g

def sameL (d s : Int) : Bool := !(wideL d == 0) && wideL d == wideL s
def wb (d : Int) : Int := if wideL d == 16 then 1 else 0
def twoL (op d s : Int) : List Int × Int :=
  if op == 1 && sameL d s then ([136 + wb d, 192 + numL s * 8 + numL d], 0)
  else if op == 1 then placesL d s
  else if op == 17 && sameL d s && !(d == 9) && !(s == 9) then ([134 + wb d, 192 + numL s * 8 + numL d], 0)
  else if op == 30 && d == 1 && s == 20 then ([228], 1)
  else if op == 31 && d == 20 && s == 1 then ([230], 1)
  else if decide (op < 2) || decide (9 < op) then ([], 0)
  else if sameL d s then ([(op - 2) * 8 + wb d, 192 + numL s * 8 + numL d], 0)
  else if wideL d == 8 && s == 17 then ([(op - 2) * 8 + 2, numL d * 8 + 7], 0)
  else if d == 1 && s == 20 then ([(op - 2) * 8 + 4], 1)
  else if wideL d == 8 && s == 20 then ([128, 192 + (op - 2) * 8 + numL d], 1)
  else ([], 0)
def oneL (op d : Int) : List Int × Int :=
  if decide (op ≤ 11) && d == 17 then ([254, (op - 10) * 8 + 7], 0)
  else if decide (op ≤ 11) && wideL d == 8 then ([254, 192 + (op - 10) * 8 + numL d], 0)
  else if decide (op ≤ 11) && wideL d == 16 then ([64 + (op - 10) * 8 + numL d], 0)
  else if decide (op ≤ 15) && !(wideL d == 0) then ([208 + wb d, 192 + (op - 12) * 8 + numL d], 0)
  else if op == 16 && wideL d == 8 then ([246, 208 + numL d], 0)
  else if decide (18 ≤ op) && wideL d == 16 then ([80 + (op - 18) * 8 + numL d], 0)
  else ([], 0)
def aloneB (op : Int) : Int := ([159, 158, 39, 245, 249, 248, 251, 250, 244, 144] : List Int).getD (op - 20).toNat 0
def headsL (op d s : Int) : List Int × Int :=
  if decide (op < 1) then ([], 0)
  else if !(s == 0) || op == 1 || op == 17 then twoL op d s
  else if decide (10 ≤ op) && decide (op ≤ 19) then oneL op d
  else if d == 0 && decide (20 ≤ op) && decide (op ≤ 29) then ([aloneB op], 0)
  else if d == 0 && op == 35 then ([195], 0)
  else if !(d == 20) then ([], 0)
  else if op == 32 then ([233], 2)
  else if op == 33 then ([235], 3)
  else if op == 34 then ([232], 2)
  else if decide (42 ≤ op) && decide (op ≤ 51) && !(op == 46) && !(op == 47) then ([112 + (op - 40)], 3)
  else ([], 0)

theorem andk (op : Int) (h0 : 2 ≤ op) (h1 : op ≤ 9) : bits BinOp.and IntKind.u8 (op - 2) 7 = op - 2 := by
  have h := byte_cases (P := fun x => bits BinOp.and IntKind.u8 x 7 = x % 8) (by decide +kernel) (op - 2) (by omega) (by omega)
  rw [h]; omega
theorem ork (k : Int) (h0 : 0 ≤ k) (h1 : k ≤ 7) : bits BinOp.or IntKind.u8 (k * 8) 0 = k * 8 ∧ bits BinOp.or IntKind.u8 (k * 8) 1 = k * 8 + 1 ∧ bits BinOp.or IntKind.u8 (k * 8) 2 = k * 8 + 2 ∧ bits BinOp.or IntKind.u8 (k * 8) 4 = k * 8 + 4 :=
  byte_cases (P := fun k => k ≤ 7 → bits BinOp.or IntKind.u8 (k * 8) 0 = k * 8 ∧ bits BinOp.or IntKind.u8 (k * 8) 1 = k * 8 + 1 ∧ bits BinOp.or IntKind.u8 (k * 8) 2 = k * 8 + 2 ∧ bits BinOp.or IntKind.u8 (k * 8) 4 = k * 8 + 4) (by decide +kernel) k h0 (by omega) h1
theorem or_consts : bits BinOp.or IntKind.u8 136 0 = 136 ∧ bits BinOp.or IntKind.u8 136 1 = 137 ∧ bits BinOp.or IntKind.u8 134 0 = 134 ∧ bits BinOp.or IntKind.u8 134 1 = 135 := by decide +kernel
theorem or64 (x : Int) (h0 : 0 ≤ x) (h1 : x ≤ 7) : bits BinOp.or IntKind.u8 64 x = 64 + x ∧ bits BinOp.or IntKind.u8 72 x = 72 + x ∧ bits BinOp.or IntKind.u8 80 x = 80 + x ∧ bits BinOp.or IntKind.u8 88 x = 88 + x :=
  byte_cases (P := fun x => x ≤ 7 → bits BinOp.or IntKind.u8 64 x = 64 + x ∧ bits BinOp.or IntKind.u8 72 x = 72 + x ∧ bits BinOp.or IntKind.u8 80 x = 80 + x ∧ bits BinOp.or IntKind.u8 88 x = 88 + x) (by decide +kernel) x h0 (by omega) h1

end Go.Proofs.Ytbhkndblolegaaa

namespace Go.Proofs.Ytbhkndblolegaaa
set_option linter.unusedVariables false

def orL (a b : Int) : Int := ((a.toNat ||| b.toNat : Nat) : Int)
def andL (a b : Int) : Int := ((a.toNat &&& b.toNat : Nat) : Int)
def xorL (a b : Int) : Int := ((a.toNat ^^^ b.toNat : Nat) : Int)
theorem u16_and (a b : Int) (h0 : 0 ≤ a) (h1 : a ≤ 65535) (g0 : 0 ≤ b) (g1 : b ≤ 65535) : bits .and .u16 a b = andL a b := by
  obtain ⟨x, rfl⟩ := Int.eq_ofNat_of_zero_le h0
  obtain ⟨y, rfl⟩ := Int.eq_ofNat_of_zero_le g0
  have hx : x &&& y < 2 ^ 16 := Nat.and_lt_two_pow _ (by omega)
  show IntKind.u16.wrap ((BitVec.ofInt 16 (x : Int) &&& BitVec.ofInt 16 (y : Int)).toNat : Int) = _
  rw [BitVec.toNat_and, BitVec.ofInt_natCast, BitVec.toNat_ofNat, BitVec.ofInt_natCast, BitVec.toNat_ofNat, Nat.mod_eq_of_lt (by omega : x < 2 ^ 16), Nat.mod_eq_of_lt (by omega : y < 2 ^ 16)]
  simp only [IntKind.wrap, IntKind.bits, IntKind.signed, andL, Int.toNat_natCast]
  simp
  omega
theorem u16_or (a b : Int) (h0 : 0 ≤ a) (h1 : a ≤ 65535) (g0 : 0 ≤ b) (g1 : b ≤ 65535) : bits .or .u16 a b = orL a b := by
  obtain ⟨x, rfl⟩ := Int.eq_ofNat_of_zero_le h0
  obtain ⟨y, rfl⟩ := Int.eq_ofNat_of_zero_le g0
  have hx : x ||| y < 2 ^ 16 := Nat.or_lt_two_pow (by omega) (by omega)
  show IntKind.u16.wrap ((BitVec.ofInt 16 (x : Int) ||| BitVec.ofInt 16 (y : Int)).toNat : Int) = _
  rw [BitVec.toNat_or, BitVec.ofInt_natCast, BitVec.toNat_ofNat, BitVec.ofInt_natCast, BitVec.toNat_ofNat, Nat.mod_eq_of_lt (by omega : x < 2 ^ 16), Nat.mod_eq_of_lt (by omega : y < 2 ^ 16)]
  simp only [IntKind.wrap, IntKind.bits, IntKind.signed, orL, Int.toNat_natCast]
  simp
  omega
theorem u16_xor (a b : Int) (h0 : 0 ≤ a) (h1 : a ≤ 65535) (g0 : 0 ≤ b) (g1 : b ≤ 65535) : bits .xor .u16 a b = xorL a b := by
  obtain ⟨x, rfl⟩ := Int.eq_ofNat_of_zero_le h0
  obtain ⟨y, rfl⟩ := Int.eq_ofNat_of_zero_le g0
  have hx : x ^^^ y < 2 ^ 16 := Nat.xor_lt_two_pow (by omega) (by omega)
  show IntKind.u16.wrap ((BitVec.ofInt 16 (x : Int) ^^^ BitVec.ofInt 16 (y : Int)).toNat : Int) = _
  rw [BitVec.toNat_xor, BitVec.ofInt_natCast, BitVec.toNat_ofNat, BitVec.ofInt_natCast, BitVec.toNat_ofNat, Nat.mod_eq_of_lt (by omega : x < 2 ^ 16), Nat.mod_eq_of_lt (by omega : y < 2 ^ 16)]
  simp only [IntKind.wrap, IntKind.bits, IntKind.signed, xorL, Int.toNat_natCast]
  simp
  omega
theorem u32_and (a b : Int) (h0 : 0 ≤ a) (h1 : a ≤ 4294967295) (g0 : 0 ≤ b) (g1 : b ≤ 4294967295) : bits .and .u32 a b = andL a b := by
  obtain ⟨x, rfl⟩ := Int.eq_ofNat_of_zero_le h0
  obtain ⟨y, rfl⟩ := Int.eq_ofNat_of_zero_le g0
  have hx : x &&& y < 2 ^ 32 := Nat.and_lt_two_pow _ (by omega)
  show IntKind.u32.wrap ((BitVec.ofInt 32 (x : Int) &&& BitVec.ofInt 32 (y : Int)).toNat : Int) = _
  rw [BitVec.toNat_and, BitVec.ofInt_natCast, BitVec.toNat_ofNat, BitVec.ofInt_natCast, BitVec.toNat_ofNat, Nat.mod_eq_of_lt (by omega : x < 2 ^ 32), Nat.mod_eq_of_lt (by omega : y < 2 ^ 32)]
  simp only [IntKind.wrap, IntKind.bits, IntKind.signed, andL, Int.toNat_natCast]
  simp
  omega
theorem u32_or (a b : Int) (h0 : 0 ≤ a) (h1 : a ≤ 4294967295) (g0 : 0 ≤ b) (g1 : b ≤ 4294967295) : bits .or .u32 a b = orL a b := by
  obtain ⟨x, rfl⟩ := Int.eq_ofNat_of_zero_le h0
  obtain ⟨y, rfl⟩ := Int.eq_ofNat_of_zero_le g0
  have hx : x ||| y < 2 ^ 32 := Nat.or_lt_two_pow (by omega) (by omega)
  show IntKind.u32.wrap ((BitVec.ofInt 32 (x : Int) ||| BitVec.ofInt 32 (y : Int)).toNat : Int) = _
  rw [BitVec.toNat_or, BitVec.ofInt_natCast, BitVec.toNat_ofNat, BitVec.ofInt_natCast, BitVec.toNat_ofNat, Nat.mod_eq_of_lt (by omega : x < 2 ^ 32), Nat.mod_eq_of_lt (by omega : y < 2 ^ 32)]
  simp only [IntKind.wrap, IntKind.bits, IntKind.signed, orL, Int.toNat_natCast]
  simp
  omega
theorem u32_xor (a b : Int) (h0 : 0 ≤ a) (h1 : a ≤ 4294967295) (g0 : 0 ≤ b) (g1 : b ≤ 4294967295) : bits .xor .u32 a b = xorL a b := by
  obtain ⟨x, rfl⟩ := Int.eq_ofNat_of_zero_le h0
  obtain ⟨y, rfl⟩ := Int.eq_ofNat_of_zero_le g0
  have hx : x ^^^ y < 2 ^ 32 := Nat.xor_lt_two_pow (by omega) (by omega)
  show IntKind.u32.wrap ((BitVec.ofInt 32 (x : Int) ^^^ BitVec.ofInt 32 (y : Int)).toNat : Int) = _
  rw [BitVec.toNat_xor, BitVec.ofInt_natCast, BitVec.toNat_ofNat, BitVec.ofInt_natCast, BitVec.toNat_ofNat, Nat.mod_eq_of_lt (by omega : x < 2 ^ 32), Nat.mod_eq_of_lt (by omega : y < 2 ^ 32)]
  simp only [IntKind.wrap, IntKind.bits, IntKind.signed, xorL, Int.toNat_natCast]
  simp
  omega
theorem andL_mask (a : Int) (k : Nat) (h0 : 0 ≤ a) : andL a ((2 ^ k - 1 : Nat) : Int) = a % ((2 ^ k : Nat) : Int) := by
  obtain ⟨x, rfl⟩ := Int.eq_ofNat_of_zero_le h0
  simp only [andL, Int.toNat_natCast]
  rw [Nat.and_two_pow_sub_one_eq_mod]
  simp
theorem nat_and_bit (x k : Nat) : x &&& 2 ^ k = x / 2 ^ k % 2 * 2 ^ k := by
  have h : x / 2 ^ k % 2 = 0 ∨ x / 2 ^ k % 2 = 1 := by omega
  apply Nat.eq_of_testBit_eq
  intro i
  rw [Nat.testBit_and, Nat.testBit_two_pow]
  by_cases hi : k = i
  · subst hi
    rw [Nat.testBit_eq_decide_div_mod_eq]
    rcases h with h | h <;> simp [h]
  · rcases h with h | h <;> simp [h, hi]
theorem andL_bit (a : Int) (k : Nat) (h0 : 0 ≤ a) : andL a ((2 ^ k : Nat) : Int) = a / ((2 ^ k : Nat) : Int) % 2 * ((2 ^ k : Nat) : Int) := by
  obtain ⟨x, rfl⟩ := Int.eq_ofNat_of_zero_le h0
  simp only [andL, Int.toNat_natCast]
  rw [nat_and_bit, ← Int.natCast_ediv, show (2 : Int) = ((2 : Nat) : Int) from rfl, ← Int.natCast_emod, ← Int.natCast_mul]
theorem bounds_or (a b : Int) (k : Nat) (h0 : 0 ≤ a) (h1 : a < ((2 ^ k : Nat) : Int)) (g0 : 0 ≤ b) (g1 : b < ((2 ^ k : Nat) : Int)) : 0 ≤ orL a b ∧ orL a b < ((2 ^ k : Nat) : Int) ∧ 0 ≤ andL a b ∧ andL a b < ((2 ^ k : Nat) : Int) ∧ 0 ≤ xorL a b ∧ xorL a b < ((2 ^ k : Nat) : Int) := by
  obtain ⟨x, rfl⟩ := Int.eq_ofNat_of_zero_le h0
  obtain ⟨y, rfl⟩ := Int.eq_ofNat_of_zero_le g0
  have hx : x < 2 ^ k := by omega
  have hy : y < 2 ^ k := by omega
  have h1 := Nat.or_lt_two_pow hx hy
  have h2 := Nat.and_lt_two_pow x hy
  have h3 := Nat.xor_lt_two_pow hx hy
  simp only [orL, andL, xorL, Int.toNat_natCast]
  omega

/-- What the walk meets. -/
theorem mask8 (n : Int) (h0 : 0 ≤ n) (h1 : n ≤ 65535) : bits .and .u16 n 255 = n % 256 := by
  rw [u16_and n 255 h0 h1 (by omega) (by omega)]; exact andL_mask n 8 h0
theorem mask16 (n : Int) (h0 : 0 ≤ n) (h1 : n ≤ 65535) : bits .and .u16 n 65535 = n := by
  rw [u16_and n 65535 h0 h1 (by omega) (by omega)]
  have := andL_mask n 16 h0
  have e : n % ((2 ^ 16 : Nat) : Int) = n := by omega
  rw [e] at this; exact this
theorem top8 (n : Int) (h0 : 0 ≤ n) (h1 : n ≤ 255) : (bits .and .u16 n 128 != 0) = decide (128 ≤ n) := by
  rw [u16_and n 128 h0 (by omega) (by omega) (by omega)]
  have := andL_bit n 7 h0
  rw [show ((2 ^ 7 : Nat) : Int) = 128 from rfl] at this
  rw [this, Bool.eq_iff_iff]
  simp only [bne_iff_ne, ne_eq, decide_eq_true_eq]
  omega
theorem top16 (n : Int) (h0 : 0 ≤ n) (h1 : n ≤ 65535) : (bits .and .u16 n 32768 != 0) = decide (32768 ≤ n) := by
  rw [u16_and n 32768 h0 (by omega) (by omega) (by omega)]
  have := andL_bit n 15 h0
  rw [show ((2 ^ 15 : Nat) : Int) = 32768 from rfl] at this
  rw [this, Bool.eq_iff_iff]
  simp only [bne_iff_ne, ne_eq, decide_eq_true_eq]
  omega
theorem bit1w (n : Int) (h0 : 0 ≤ n) (h1 : n ≤ 65535) : bits .and .u16 n 1 = n % 2 := by
  rw [u16_and n 1 h0 h1 (by omega) (by omega)]; exact andL_mask n 1 h0
theorem bit1 (n : Int) (h0 : 0 ≤ n) (h1 : n ≤ 4294967295) : bits .and .u32 n 1 = n % 2 := by
  rw [u32_and n 1 h0 h1 (by omega) (by omega)]; exact andL_mask n 1 h0
theorem mask15 (n : Int) (h0 : 0 ≤ n) (h1 : n ≤ 4294967295) : bits .and .u32 n 15 = n % 16 := by
  rw [u32_and n 15 h0 h1 (by omega) (by omega)]; exact andL_mask n 4 h0

end Go.Proofs.Ytbhkndblolegaaa

namespace Go.Proofs.Ytbhkndblolegaaa
set_option linter.unusedVariables false
set_option linter.unusedSimpArgs false

structure Fl where
  s : Bool
  z : Bool
  a : Bool
  p : Bool
  c : Bool
def Fl.val (f : Fl) : Value := .agg #[.bool f.s, .bool f.z, .bool f.a, .bool f.p, .bool f.c]
structure Rg where
  R : Nat → Int
  F : Fl
  ip : Int
  ie : Bool
  halt : Bool
structure Rg.Ok (r : Rg) : Prop where
  lo : ∀ i, 0 ≤ r.R i
  hi : ∀ i, r.R i ≤ 65535
  ip0 : 0 ≤ r.ip
  ip1 : r.ip ≤ 65535
def upd {α : Type} (f : Nat → α) (k : Nat) (v : α) : Nat → α := fun i => if i = k then v else f i

/-- A byte register. -/
def lowL (r : Rg) (i : Nat) : Int := if i < 4 then r.R i % 256 else r.R (i - 4) / 256
def setR (r : Rg) (i : Nat) (v : Int) : Rg := { r with R := upd r.R i v }
def setLow (r : Rg) (i : Nat) (b : Int) : Rg := if i < 4 then setR r i (r.R i / 256 * 256 + b) else setR r (i - 4) (r.R (i - 4) % 256 + b * 256)
theorem setR_ok {r : Rg} (h : r.Ok) (i : Nat) (v : Int) (h0 : 0 ≤ v) (h1 : v ≤ 65535) : (setR r i v).Ok := by
  refine ⟨fun k => ?_, fun k => ?_, h.ip0, h.ip1⟩ <;> simp only [setR, upd] <;> split
  · exact h0
  · exact h.lo k
  · exact h1
  · exact h.hi k
theorem setLow_ok {r : Rg} (h : r.Ok) (i : Nat) (b : Int) (h0 : 0 ≤ b) (h1 : b ≤ 255) : (setLow r i b).Ok := by
  unfold setLow
  have a := h.lo i
  have b := h.hi i
  have c := h.lo (i - 4)
  have d := h.hi (i - 4)
  split
  · exact setR_ok h i _ (by omega) (by omega)
  · exact setR_ok h (i - 4) _ (by omega) (by omega)
theorem lowL_lo {r : Rg} (h : r.Ok) (i : Nat) : 0 ≤ lowL r i := by
  unfold lowL
  have a := h.lo i
  have c := h.lo (i - 4)
  split <;> omega
theorem lowL_hi {r : Rg} (h : r.Ok) (i : Nat) : lowL r i ≤ 255 := by
  unfold lowL
  have a := h.hi i
  have c := h.hi (i - 4)
  split <;> omega

/-- The cells of a machine. -/
def cellsC (r : Rg) (vi vo vc vd : Value) : Array Value :=
  #[.int .u16 (r.R 0), .int .u16 (r.R 1), .int .u16 (r.R 2), .int .u16 (r.R 3), .int .u16 (r.R 4), .int .u16 (r.R 5), .int .u16 (r.R 6), .int .u16 (r.R 7),
    .bool r.F.s, .bool r.F.z, .bool r.F.a, .bool r.F.p, .bool r.F.c, .int .u16 r.ip, .bool r.ie, .bool r.halt, vi, vo, vc, vd]


/-- A result by its width, 8 or 16, and its flags. -/
def flagsV (m n : Int) : Int := if m = 8 then n % 256 else n % 65536
def flagsF (m n : Int) (aux : Bool) : Fl :=
  { s := if m = 8 then decide (128 ≤ n % 256) else decide (32768 ≤ n % 65536), z := flagsV m n == 0, a := aux, p := par (n % 256), c := if m = 8 then n / 256 % 2 == 1 else n / 65536 % 2 == 1 }
def sumN (k a b : Int) (c : Bool) : Int :=
  if k = 0 then a + b else if k = 2 then a + b + cb c else if k = 1 then orL a b else if k = 4 then andL a b else if k = 6 then xorL a b else if k = 3 then (a - b - cb c) % 4294967296 else (a - b) % 4294967296
def sumA (k a b : Int) (c : Bool) : Bool :=
  if k = 0 then decide (15 < a % 16 + b % 16) else if k = 2 then decide (15 < a % 16 + b % 16 + cb c) else if k = 1 ∨ k = 4 ∨ k = 6 then false else if k = 3 then decide (a % 16 < b % 16 + cb c) else decide (a % 16 < b % 16)
def topL (m : Int) : Int := if m = 8 then 128 else 32768
def turnO (k v m : Int) : Bool := if k % 2 = 0 then decide (topL m ≤ v) else decide (v % 2 = 1)
def turnI (k v : Int) (c : Bool) (m : Int) : Bool := if k / 2 % 2 = 1 then c else turnO k v m
def turnV (k v : Int) (c : Bool) (m : Int) : Int := if k % 2 = 0 then flagsV m (v * 2 + cb (turnI k v c m)) else v / 2 + cb (turnI k v c m) * topL m

/-- Data: bytes by addresses. -/
abbrev Dat := Nat → Int
def Dat.Ok (D : Dat) : Prop := ∀ i, 0 ≤ D i ∧ D i ≤ 255
def nextA (a : Nat) : Nat := (a + 1) % 65536
def wordL (D : Dat) (a : Nat) : Int := D a + D (nextA a) * 256
def loadL (D : Dat) (a : Nat) (m : Int) : Int := if m = 8 then D a else wordL D a
def putW (D : Dat) (a : Nat) (v : Int) : Dat := upd (upd D a (v % 256)) (nextA a) (v / 256)
def storeL (D : Dat) (a : Nat) (v m : Int) : Dat := if m = 8 then upd D a (v % 256) else putW D a v
theorem upd_ok {D : Dat} (h : D.Ok) (k : Nat) (v : Int) (h0 : 0 ≤ v) (h1 : v ≤ 255) : Dat.Ok (upd D k v) := by
  intro i; unfold upd; split
  · exact ⟨h0, h1⟩
  · exact h i
theorem storeL_ok {D : Dat} (h : D.Ok) (a : Nat) (v m : Int) (h0 : 0 ≤ v) (h1 : v ≤ 65535) : (storeL D a v m).Ok := by
  unfold storeL putW; split
  · exact upd_ok h _ _ (by omega) (by omega)
  · exact upd_ok (upd_ok h _ _ (by omega) (by omega)) _ _ (by omega) (by omega)
theorem wordL_lo {D : Dat} (h : D.Ok) (a : Nat) : 0 ≤ wordL D a ∧ wordL D a ≤ 65535 := by
  have h1 := h a
  have h2 := h (nextA a)
  unfold wordL; omega
theorem loadL_lo {D : Dat} (h : D.Ok) (a : Nat) (m : Int) : 0 ≤ loadL D a m ∧ loadL D a m ≤ 65535 ∧ (m = 8 → loadL D a m ≤ 255) := by
  have h1 := h a
  have h2 := wordL_lo h a
  unfold loadL; split <;> omega
/-- A machine: its registers and flags, and its data. -/
structure St where
  r : Rg
  D : Dat
structure St.Ok (s : St) : Prop where
  r : s.r.Ok
  D : s.D.Ok
def addrL (r : Rg) (code n : Int) : Int := if code = 17 then r.R 3 else if code = 18 then r.R 6 else n
theorem addrL_lo {r : Rg} (h : r.Ok) (code n : Int) (n0 : 0 ≤ n) (n1 : n ≤ 65535) : 0 ≤ addrL r code n ∧ addrL r code n ≤ 65535 := by
  have a := h.lo 3
  have b := h.hi 3
  have c := h.lo 6
  have d := h.hi 6
  unfold addrL; repeat' split
  all_goals omega
def getL (s : St) (code n m : Int) : Int :=
  if code ≤ 8 then lowL s.r (code - 1).toNat else if code ≤ 16 then s.r.R (code - 9).toNat else if code = 20 then n else loadL s.D (addrL s.r code n).toNat m
def setL (s : St) (code n v m : Int) : St :=
  if code ≤ 8 then { s with r := setLow s.r (code - 1).toNat (v % 256) } else if code ≤ 16 then { s with r := setR s.r (code - 9).toNat v } else { s with D := storeL s.D (addrL s.r code n).toNat v m }
theorem getL_lo {s : St} (h : s.Ok) (code n m : Int) (n0 : 0 ≤ n) (n1 : n ≤ 65535) : 0 ≤ getL s code n m ∧ getL s code n m ≤ 65535 := by
  have a := lowL_lo h.r (code - 1).toNat
  have b := lowL_hi h.r (code - 1).toNat
  have c := h.r.lo (code - 9).toNat
  have d := h.r.hi (code - 9).toNat
  have e := loadL_lo h.D (addrL s.r code n).toNat m
  unfold getL; repeat' split
  all_goals omega
theorem setL_ok {s : St} (h : s.Ok) (code n v m : Int) (h0 : 0 ≤ v) (h1 : v ≤ 65535) : (setL s code n v m).Ok := by
  unfold setL; repeat' split
  · exact ⟨setLow_ok h.r _ _ (by omega) (by omega), h.D⟩
  · exact ⟨setR_ok h.r _ _ h0 h1, h.D⟩
  · exact ⟨h.r, storeL_ok h.D _ _ _ h0 h1⟩

end Go.Proofs.Ytbhkndblolegaaa

namespace Go.Proofs.Ytbhkndblolegaaa
set_option linter.unusedVariables false
set_option linter.unusedSimpArgs false

/-- Bytes by places. -/
abbrev Plc := List (Int × Int)
def Plc.Ok (l : Plc) : Prop := ∀ p ∈ l, (0 ≤ p.1 ∧ p.1 ≤ 65535) ∧ 0 ≤ p.2 ∧ p.2 ≤ 255
def memL (l : Plc) : Dat := l.foldl (fun D p => upd D p.1.toNat p.2) (fun _ => 0)
theorem memL_snoc (l : Plc) (p : Int × Int) : memL (l ++ [p]) = upd (memL l) p.1.toNat p.2 := by simp [memL, List.foldl_append]
theorem memL_take (l : Plc) (k : Nat) (h : k < l.length) : memL (l.take (k + 1)) = upd (memL (l.take k)) (l.getD k (0, 0)).1.toNat (l.getD k (0, 0)).2 := by
  have e : l.take (k + 1) = l.take k ++ [l.getD k (0, 0)] := by
    rw [List.take_add_one]
    simp [List.getD, h]
  rw [e, memL_snoc]
theorem plc_getD {l : Plc} (h : l.Ok) (k : Nat) (hk : k < l.length) : (0 ≤ (l.getD k (0, 0)).1 ∧ (l.getD k (0, 0)).1 ≤ 65535) ∧ 0 ≤ (l.getD k (0, 0)).2 ∧ (l.getD k (0, 0)).2 ≤ 255 := by
  have := h l[k] (List.getElem_mem hk)
  simpa [List.getD, hk] using this
theorem memL_ok_take {l : Plc} (h : l.Ok) (k : Nat) (hk : k ≤ l.length) : (memL (l.take k)).Ok := by
  induction k with
  | zero => intro i; simp [memL]
  | succ k ih =>
    rw [memL_take l k (by omega)]
    have b := plc_getD h k (by omega)
    exact upd_ok (ih (by omega)) _ _ b.2.1 b.2.2
theorem memL_ok {l : Plc} (h : l.Ok) : (memL l).Ok := by
  have := memL_ok_take h l.length (Nat.le_refl _)
  rwa [List.take_length] at this

/-- Bytes laid from a place on, the first k of them. -/
def withK (ip : Int) (bs : List Int) (l : Plc) : Nat → Plc
  | 0 => l
  | k + 1 => withK ip bs l k ++ [((ip + k) % 65536, bs.getD k 0)]
def withL (ip : Int) (bs : List Int) (l : Plc) : Plc := withK ip bs l bs.length
theorem withK_len (ip : Int) (bs : List Int) (l : Plc) (k : Nat) : (withK ip bs l k).length = l.length + k := by
  induction k with
  | zero => rfl
  | succ k ih => simp [withK, ih]; omega
theorem withK_ok {l : Plc} (h : l.Ok) (ip : Int) (bs : List Int) (hb : ∀ x ∈ bs, 0 ≤ x ∧ x ≤ 255) (k : Nat) (hk : k ≤ bs.length) : (withK ip bs l k).Ok := by
  induction k with
  | zero => exact h
  | succ k ih =>
    intro p hp
    simp only [withK, List.mem_append, List.mem_singleton] at hp
    rcases hp with hp | rfl
    · exact ih (by omega) p hp
    · have hk' : k < bs.length := by omega
      have := hb bs[k] (List.getElem_mem hk')
      refine ⟨⟨by omega, by omega⟩, ?_⟩
      simpa [List.getD, hk'] using this
theorem withL_ok {l : Plc} (h : l.Ok) (ip : Int) (bs : List Int) (hb : ∀ x ∈ bs, 0 ≤ x ∧ x ≤ 255) : (withL ip bs l).Ok := withK_ok h ip bs hb _ (Nat.le_refl _)
/-- A place among those, where they are no more than there are places. -/
theorem memL_with (ip : Int) (bs : List Int) (l : Plc) (k j : Nat) (hj : j < k) (hk : k ≤ 65536) : memL (withK ip bs l k) ((ip + j) % 65536).toNat = bs.getD j 0 := by
  induction k with
  | zero => omega
  | succ k ih =>
    rw [withK, memL_snoc]
    unfold upd
    by_cases e : j = k
    · subst e; simp
    · rw [if_neg (by omega)]
      exact ih (by omega) (by omega)
theorem memL_withL (ip : Int) (bs : List Int) (l : Plc) (j : Nat) (hj : j < bs.length) (hk : bs.length ≤ 65536) : memL (withL ip bs l) ((ip + j) % 65536).toNat = bs.getD j 0 := memL_with ip bs l _ j hj hk

end Go.Proofs.Ytbhkndblolegaaa

namespace Go.Proofs.Ytbhkndblolegaaa

def regL (x : Int) (w : Bool) : Int := if w then x % 8 + 9 else x % 8 + 1
def placeL (m r : Int) : Int := if m / 64 = 3 then r else if m % 8 = 7 then 17 else if m % 8 = 4 then 18 else if m % 8 = 6 then 19 else 0
def movedL (a m reg r : Int) : Int × Int × Int := if a / 2 % 2 = 0 then (1, placeL m r, reg) else (1, reg, placeL m r)
def aloneL (a : Int) : Int × Int × Int :=
  if a = 160 then (1, 1, 19) else if a = 162 then (1, 19, 1) else if a = 228 then (30, 1, 20) else if a = 230 then (31, 20, 1) else if a = 233 then (32, 20, 0)
  else if a = 235 then (33, 20, 0) else if a = 232 then (34, 20, 0) else if a = 195 then (35, 0, 0)
  else (20 + (if a = 159 then 0 else if a = 158 then 1 else if a = 39 then 2 else if a = 245 then 3 else if a = 249 then 4 else if a = 248 then 5 else if a = 251 then 6 else if a = 250 then 7 else if a = 244 then 8 else if a = 144 then 9 else -1), 0, 0)
def guessL (a m : Int) : Int × Int × Int :=
  let w := decide (a % 2 = 1)
  let reg := regL (m / 8) w
  let r := regL m w
  let k := m / 8 % 8
  if a < 64 ∧ a % 8 < 2 then (a / 8 + 2, r, reg)
  else if a < 64 ∧ a % 8 = 2 then (a / 8 + 2, reg, 17)
  else if a < 64 ∧ a % 8 = 4 then (a / 8 + 2, 1, 20)
  else if a = 39 then (22, 0, 0)
  else if a / 16 = 4 then (10 + a / 8 % 2, regL a true, 0)
  else if a / 16 = 5 then (18 + a / 8 % 2, regL a true, 0)
  else if a / 16 = 7 then (40 + a % 16, 20, 0)
  else if a = 128 then (k + 2, r, 20)
  else if a = 134 ∨ a = 135 then (17, r, reg)
  else if a / 8 = 22 then (1, regL a false, 20)
  else if a / 8 = 23 then (1, regL a true, 20)
  else if a = 198 then (1, 17, 20)
  else if a = 208 ∨ a = 209 then (12 + k, r, 0)
  else if a = 246 then (16, r, 0)
  else if a = 254 ∧ m / 64 = 0 then (10 + k, 17, 0)
  else if a = 254 then (10 + k, r, 0)
  else if a / 4 = 34 then movedL a m reg r
  else aloneL a

theorem and2_u8 (a : Int) (h0 : 0 ≤ a) (h1 : a ≤ 255) : bits BinOp.and IntKind.u8 a 2 = a / 2 % 2 * 2 :=
  byte_cases (P := fun a => bits BinOp.and IntKind.u8 a 2 = a / 2 % 2 * 2) (by decide +kernel) a h0 h1
theorem and1_u8 (a : Int) (h0 : 0 ≤ a) (h1 : a ≤ 255) : bits BinOp.and IntKind.u8 a 1 = a % 2 :=
  byte_cases (P := fun a => bits BinOp.and IntKind.u8 a 1 = a % 2) (by decide +kernel) a h0 h1
theorem wfalse_u8 (a : Int) (h0 : 0 ≤ a) (h1 : a ≤ 255) (h : a % 2 = 0) : (bits BinOp.and IntKind.u8 a 1 == 1) = false :=
  byte_cases (P := fun a => a % 2 = 0 → (bits BinOp.and IntKind.u8 a 1 == 1) = false) (by decide +kernel) a h0 h1 h
theorem wtrue_u8 (a : Int) (h0 : 0 ≤ a) (h1 : a ≤ 255) (h : a % 2 = 1) : (bits BinOp.and IntKind.u8 a 1 == 1) = true :=
  byte_cases (P := fun a => a % 2 = 1 → (bits BinOp.and IntKind.u8 a 1 == 1) = true) (by decide +kernel) a h0 h1 h
theorem and252_u8 (a : Int) (h0 : 0 ≤ a) (h1 : a ≤ 255) : bits BinOp.and IntKind.u8 a 252 = a / 4 * 4 :=
  byte_cases (P := fun a => bits BinOp.and IntKind.u8 a 252 = a / 4 * 4) (by decide +kernel) a h0 h1

end Go.Proofs.Ytbhkndblolegaaa
