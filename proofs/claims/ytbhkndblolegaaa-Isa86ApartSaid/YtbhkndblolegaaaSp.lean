/- Plain facts on bytes and flags: sign, parity and bits, by cases or linear arithmetic; no program in sight. -/
import Derived.IntWalk
import Derived.Laws.BitsAllLaws
import Derived.Laws.Closers25b
namespace Go.Proofs.Ytbhkndblolegaaa

def sgn (n : Int) : Bool := decide (128 ≤ n)
def popc (n : Int) : Int := n % 2 + n / 2 % 2 + n / 4 % 2 + n / 8 % 2 + n / 16 % 2 + n / 32 % 2 + n / 64 % 2 + n / 128 % 2
def par (n : Int) : Bool := popc n % 2 == 0
def cb (c : Bool) : Int := if c then 1 else 0
theorem cb_lo (c : Bool) : 0 ≤ cb c := by cases c <;> decide
theorem cb_hi (c : Bool) : cb c ≤ 1 := by cases c <;> decide
theorem popc_lo (n : Int) : 0 ≤ popc n := by unfold popc; omega
theorem popc_hi (n : Int) : popc n ≤ 8 := by unfold popc; omega

theorem popc_and (n : Int) : (bits BinOp.and IntKind.i64 (popc n) 1 == 0) = par n := by
  have h : ∀ k : Fin 9, (bits BinOp.and IntKind.i64 (k.val : Int) 1 == 0) = ((k.val : Int) % 2 == 0) := by decide +kernel
  have h1 := popc_lo n
  have h2 := popc_hi n
  have e : (((popc n).toNat : Nat) : Int) = popc n := by omega
  have := h ⟨(popc n).toNat, by omega⟩
  simp only [e] at this
  exact this

theorem byte_cases {P : Int → Prop} (h : ∀ n : Fin 256, P (n.val : Int)) (a : Int) (h0 : 0 ≤ a) (h1 : a ≤ 255) : P a := by
  have := h ⟨a.toNat, by omega⟩
  have e : ((a.toNat : Nat) : Int) = a := by omega
  simpa [e] using this

theorem sgn_and (a : Int) (h0 : 0 ≤ a) (h1 : a ≤ 255) : (bits BinOp.and IntKind.u8 a 128 != 0) = sgn a :=
  byte_cases (P := fun a => (bits BinOp.and IntKind.u8 a 128 != 0) = sgn a) (by decide +kernel) a h0 h1
theorem b64_and (a : Int) (h0 : 0 ≤ a) (h1 : a ≤ 255) : (bits BinOp.and IntKind.u8 a 64 != 0) = (a / 64 % 2 == 1) :=
  byte_cases (P := fun a => (bits BinOp.and IntKind.u8 a 64 != 0) = (a / 64 % 2 == 1)) (by decide +kernel) a h0 h1
theorem b16_and (a : Int) (h0 : 0 ≤ a) (h1 : a ≤ 255) : (bits BinOp.and IntKind.u8 a 16 != 0) = (a / 16 % 2 == 1) :=
  byte_cases (P := fun a => (bits BinOp.and IntKind.u8 a 16 != 0) = (a / 16 % 2 == 1)) (by decide +kernel) a h0 h1
theorem b8_and (a : Int) (h0 : 0 ≤ a) (h1 : a ≤ 255) : (bits BinOp.and IntKind.u8 a 8 != 0) = (a / 8 % 2 == 1) :=
  byte_cases (P := fun a => (bits BinOp.and IntKind.u8 a 8 != 0) = (a / 8 % 2 == 1)) (by decide +kernel) a h0 h1
theorem b4_and (a : Int) (h0 : 0 ≤ a) (h1 : a ≤ 255) : (bits BinOp.and IntKind.u8 a 4 != 0) = (a / 4 % 2 == 1) :=
  byte_cases (P := fun a => (bits BinOp.and IntKind.u8 a 4 != 0) = (a / 4 % 2 == 1)) (by decide +kernel) a h0 h1

theorem b1_and (a : Int) (h0 : 0 ≤ a) (h1 : a ≤ 255) : (bits BinOp.and IntKind.u8 a 1 != 0) = (a % 2 == 1) :=
  byte_cases (P := fun a => (bits BinOp.and IntKind.u8 a 1 != 0) = (a % 2 == 1)) (by decide +kernel) a h0 h1
def orIf (is : Bool) (v m : Int) : Int := if is then bits .or .u8 v m else v
def pswV (s z x p c : Bool) : Int := 128 * cb s + 64 * cb z + 16 * cb x + 4 * cb p + 2 + cb c
theorem orIf_psw (s z x p c : Bool) : orIf c (orIf p (orIf x (orIf z (orIf s 2 128) 64) 16) 4) 1 = pswV s z x p c := by
  cases s <;> cases z <;> cases x <;> cases p <;> cases c <;> decide +kernel
theorem rotl_or (a : Int) (h0 : 0 ≤ a) (h1 : a ≤ 255) : bits BinOp.or IntKind.u8 (a * 2 % 256) (a / 128) = (a * 2 + a / 128) % 256 :=
  byte_cases (P := fun a => bits BinOp.or IntKind.u8 (a * 2 % 256) (a / 128) = (a * 2 + a / 128) % 256) (by decide +kernel) a h0 h1
theorem rotr_or (a : Int) (h0 : 0 ≤ a) (h1 : a ≤ 255) : bits BinOp.or IntKind.u8 (a * 128 % 256) (a / 2) = a / 2 + a % 2 * 128 :=
  byte_cases (P := fun a => bits BinOp.or IntKind.u8 (a * 128 % 256) (a / 2) = a / 2 + a % 2 * 128) (by decide +kernel) a h0 h1
theorem shl_or (a : Int) (c : Bool) (h0 : 0 ≤ a) (h1 : a ≤ 255) : bits BinOp.or IntKind.u8 (a * 2 % 256) (cb c) = (a * 2 + cb c) % 256 := by
  cases c
  · exact byte_cases (P := fun a => bits BinOp.or IntKind.u8 (a * 2 % 256) (cb false) = (a * 2 + cb false) % 256) (by decide +kernel) a h0 h1
  · exact byte_cases (P := fun a => bits BinOp.or IntKind.u8 (a * 2 % 256) (cb true) = (a * 2 + cb true) % 256) (by decide +kernel) a h0 h1
theorem shr_or (a : Int) (c : Bool) (h0 : 0 ≤ a) (h1 : a ≤ 255) : bits BinOp.or IntKind.u8 (a / 2) (cb c * 128) = a / 2 + 128 * cb c := by
  cases c
  · exact byte_cases (P := fun a => bits BinOp.or IntKind.u8 (a / 2) (cb false * 128) = a / 2 + 128 * cb false) (by decide +kernel) a h0 h1
  · exact byte_cases (P := fun a => bits BinOp.or IntKind.u8 (a / 2) (cb true * 128) = a / 2 + 128 * cb true) (by decide +kernel) a h0 h1
def daaL (a : Int) (x : Bool) : Int := if 9 < a % 16 ∨ x = true then 6 else 0
def daaC (a : Int) (x c : Bool) : Bool := decide (9 < (a + daaL a x) / 16) || c
def daaV (a : Int) (x c : Bool) : Int := (a + daaL a x + 96 * cb (daaC a x c)) % 256
def popl : Nat → Int → Int
  | 0, _ => 0
  | k + 1, a => popl k a + a / 2 ^ k % 2
def parl (k : Nat) (a : Int) : Bool := popl k a % 2 == 0
theorem popl_test (k : Nat) (a : Int) (h0 : 0 ≤ a) (h1 : a ≤ 255) : (bits BinOp.and IntKind.u8 (a / 2 ^ k) 1 == 1) = (a / 2 ^ k % 2 == 1) := by
  have hp : (0 : Int) < 2 ^ k := Int.pow_pos (by decide)
  have g0 : 0 ≤ a / 2 ^ k := Int.ediv_nonneg h0 (Int.le_of_lt hp)
  have g1 : a / 2 ^ k ≤ 255 := Int.le_trans (Int.ediv_le_self _ h0) h1
  exact byte_cases (P := fun x => (bits BinOp.and IntKind.u8 x 1 == 1) = (x % 2 == 1)) (by decide +kernel) _ g0 g1
theorem parl_8 (a : Int) : parl 8 a = par a := by simp [parl, par, popl, popc]
theorem parl_succ (k : Nat) (a : Int) : parl (k + 1) a = if a / 2 ^ k % 2 = 1 then !parl k a else parl k a := by
  unfold parl
  rw [popl]
  have h : a / 2 ^ k % 2 = 0 ∨ a / 2 ^ k % 2 = 1 := by omega
  have q : popl k a % 2 = 0 ∨ popl k a % 2 = 1 := by omega
  rcases h with h | h <;> rcases q with q | q <;> simp [h, q, Int.add_emod]
theorem i64_and_nat (a b : Nat) (ha : a < 9223372036854775808) (hb : b < 9223372036854775808) : bits .and .i64 (a : Int) (b : Int) = ((a &&& b : Nat) : Int) := by
  have hx : a &&& b < 2 ^ 63 := Nat.and_lt_two_pow _ (by omega)
  show IntKind.i64.wrap ((BitVec.ofInt 64 (a : Int) &&& BitVec.ofInt 64 (b : Int)).toNat : Int) = _
  rw [BitVec.toNat_and, BitVec.ofInt_natCast, BitVec.toNat_ofNat, BitVec.ofInt_natCast, BitVec.toNat_ofNat, Nat.mod_eq_of_lt (by omega : a < 2 ^ 64), Nat.mod_eq_of_lt (by omega : b < 2 ^ 64), IntKind.wrap_i64]
  omega
theorem and255 (n : Int) (h0 : 0 ≤ n) (h1 : n < 9223372036854775808) : bits .and .i64 n 255 = n % 256 := by
  obtain ⟨m, rfl⟩ := Int.eq_ofNat_of_zero_le h0
  rw [show (255 : Int) = ((255 : Nat) : Int) from rfl, i64_and_nat m 255 (by omega) (by omega)]
  rw [show m &&& 255 = m % 256 from Nat.and_two_pow_sub_one_eq_mod m 8]
  simp
theorem and65535 (n : Int) (h0 : 0 ≤ n) (h1 : n < 9223372036854775808) : bits .and .i64 n 65535 = n % 65536 := by
  obtain ⟨m, rfl⟩ := Int.eq_ofNat_of_zero_le h0
  rw [show (65535 : Int) = ((65535 : Nat) : Int) from rfl, i64_and_nat m 65535 (by omega) (by omega)]
  rw [show m &&& 65535 = m % 65536 from Nat.and_two_pow_sub_one_eq_mod m 16]
  simp
theorem xor_max (a : Int) (h0 : 0 ≤ a) (h1 : a ≤ 255) : bits BinOp.xor IntKind.u8 IntKind.u8.max a = 255 - a :=
  byte_cases (P := fun a => bits BinOp.xor IntKind.u8 IntKind.u8.max a = 255 - a) (by decide +kernel) a h0 h1
theorem cb_not (c : Bool) : cb (!c) = 1 - cb c := by cases c <;> decide

end Go.Proofs.Ytbhkndblolegaaa
