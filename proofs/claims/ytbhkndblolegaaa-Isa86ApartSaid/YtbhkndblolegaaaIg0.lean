/- Plain functions of layer 8: an instruction guessed by its first two bytes. -/
import Derived.Test.YtbhkndblolegaaaIs
namespace Go.Proofs.Ytbhkndblolegaaa

def regL (x : Int) (w : Bool) : Int := if w then x % 8 + 9 else x % 8 + 1
def placeL (m r : Int) : Int := if m / 64 = 3 then r else if m % 8 = 7 then 17 else if m % 8 = 4 then 18 else if m % 8 = 6 then 19 else 0
def movedL (a m reg r : Int) : Int × Int × Int := if a / 2 % 2 = 0 then (1, placeL m r, reg) else (1, reg, placeL m r)
def aloneL (a : Int) : Int × Int × Int :=
  if a = 160 then (1, 1, 19) else if a = 162 then (1, 19, 1) else if a = 228 then (30, 1, 20) else if a = 230 then (31, 20, 1) else if a = 233 then (32, 20, 0)
  else if a = 235 then (33, 20, 0) else if a = 232 then (34, 20, 0) else if a = 195 then (35, 0, 0)
  else (20 + (if a = 159 then 0 else if a = 158 then 1 else if a = 39 then 2 else if a = 245 then 3 else if a = 249 then 4 else if a = 248 then 5 else if a = 251 then 6 else if a = 250 then 7 else if a = 244 then 8 else if a = 144 then 9 else -1), 0, 0)
def guessL (a m : Int) : Int × Int × Int :=
  let w := decide (a % 2 = 1)
  let reg := regL (m / 8) w
  let r := regL m w
  let k := m / 8 % 8
  if a < 64 ∧ a % 8 < 2 then (a / 8 + 2, r, reg)
  else if a < 64 ∧ a % 8 = 2 then (a / 8 + 2, reg, 17)
  else if a < 64 ∧ a % 8 = 4 then (a / 8 + 2, 1, 20)
  else if a = 39 then (22, 0, 0)
  else if a / 16 = 4 then (10 + a / 8 % 2, regL a true, 0)
  else if a / 16 = 5 then (18 + a / 8 % 2, regL a true, 0)
  else if a / 16 = 7 then (40 + a % 16, 20, 0)
  else if a = 128 then (k + 2, r, 20)
  else if a = 134 ∨ a = 135 then (17, r, reg)
  else if a / 8 = 22 then (1, regL a false, 20)
  else if a / 8 = 23 then (1, regL a true, 20)
  else if a = 198 then (1, 17, 20)
  else if a = 208 ∨ a = 209 then (12 + k, r, 0)
  else if a = 246 then (16, r, 0)
  else if a = 254 ∧ m / 64 = 0 then (10 + k, 17, 0)
  else if a = 254 then (10 + k, r, 0)
  else if a / 4 = 34 then movedL a m reg r
  else aloneL a

theorem and2_u8 (a : Int) (h0 : 0 ≤ a) (h1 : a ≤ 255) : bits BinOp.and IntKind.u8 a 2 = a / 2 % 2 * 2 :=
  byte_cases (P := fun a => bits BinOp.and IntKind.u8 a 2 = a / 2 % 2 * 2) (by decide +kernel) a h0 h1
theorem and1_u8 (a : Int) (h0 : 0 ≤ a) (h1 : a ≤ 255) : bits BinOp.and IntKind.u8 a 1 = a % 2 :=
  byte_cases (P := fun a => bits BinOp.and IntKind.u8 a 1 = a % 2) (by decide +kernel) a h0 h1
theorem wfalse_u8 (a : Int) (h0 : 0 ≤ a) (h1 : a ≤ 255) (h : a % 2 = 0) : (bits BinOp.and IntKind.u8 a 1 == 1) = false :=
  byte_cases (P := fun a => a % 2 = 0 → (bits BinOp.and IntKind.u8 a 1 == 1) = false) (by decide +kernel) a h0 h1 h
theorem wtrue_u8 (a : Int) (h0 : 0 ≤ a) (h1 : a ≤ 255) (h : a % 2 = 1) : (bits BinOp.and IntKind.u8 a 1 == 1) = true :=
  byte_cases (P := fun a => a % 2 = 1 → (bits BinOp.and IntKind.u8 a 1 == 1) = true) (by decide +kernel) a h0 h1 h
theorem and252_u8 (a : Int) (h0 : 0 ≤ a) (h1 : a ≤ 255) : bits BinOp.and IntKind.u8 a 252 = a / 4 * 4 :=
  byte_cases (P := fun a => bits BinOp.and IntKind.u8 a 252 = a / 4 * 4) (by decide +kernel) a h0 h1

end Go.Proofs.Ytbhkndblolegaaa
