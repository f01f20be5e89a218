/- The sum of chapter 14, as plain Lean functions. -/
set_option linter.unusedVariables false
set_option linter.unusedSimpArgs false
namespace Go.Proofs.Ytmlndnfehcafgaa
/-- One bit goes out. -/
def crcBit (n : UInt32) : UInt32 := (n >>> 1) ^^^ (3988292384 &&& -(n &&& 1))
def crcBits : Nat → UInt32 → UInt32
  | 0, n => n
  | k + 1, n => crcBits k (crcBit n)
/-- One byte goes in. -/
def crcByte (n : UInt32) (x : UInt8) : UInt32 := crcBits 8 (n ^^^ x.toUInt32)
def crcMore (s : UInt32) (xs : List UInt8) : UInt32 := ~~~(xs.foldl crcByte (~~~s))
theorem crcBits_succ (k : Nat) (n : UInt32) : crcBits (k + 1) n = crcBit (crcBits k n) := by
  induction k generalizing n with
  | zero => rfl
  | succ k ih => exact ih (crcBit n)
def refBit0 (xs : List UInt8) (i : Nat) : UInt64 := if i < 8 * xs.length then ((xs.getD (i / 8) 0).toUInt64 >>> UInt64.ofNat (i % 8)) &&& 1 else 0
def refBit (xs : List UInt8) (i : Nat) : UInt64 := if i < 32 then refBit0 xs i ^^^ 1 else refBit0 xs i
def refStep (r b : UInt64) : UInt64 := if (2 * r + b) >>> 32 = 1 then (2 * r + b) ^^^ 4374732215 else 2 * r + b
def refRest (xs : List UInt8) : Nat → UInt64
  | 0 => 0
  | k + 1 => refStep (refRest xs k) (refBit xs k)
def refOut (r : UInt64) : Nat → UInt32
  | 0 => 0
  | k + 1 => if (r >>> UInt64.ofNat k) &&& 1 = 0 then refOut r k + (1 <<< UInt32.ofNat (31 - k)) else refOut r k

end Go.Proofs.Ytmlndnfehcafgaa
