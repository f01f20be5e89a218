/- Words and small laws that all walks of this seat use: bytes and 32-bit numbers as the model spells them, and what it means that a slice reads as a list of bytes. -/
import Derived.Test.YtcaaeimcieooiaaRows
import Derived.WalkKit
import Derived.WalkSpells
import Derived.WalkLawsBesides
import Derived.Lib.Hide
import Derived.Laws.AppendOwnNone
set_option linter.unusedVariables false
set_option linter.unusedSimpArgs false
namespace Go.Proofs.Ytcaaeimcieooiaa
open Go.RowKit

/-- A byte, a number of 32 bits, of 64 bits, as the model's integers. -/
def c8 (x : UInt8) : Int := (x.toNat : Int)
def c32 (x : UInt32) : Int := (x.toNat : Int)
def c64 (x : UInt64) : Int := (x.toNat : Int)

theorem c8_nonneg (x : UInt8) : 0 ≤ c8 x := by unfold c8; omega
theorem c8_lt (x : UInt8) : c8 x < 256 := by have := x.toNat_lt; unfold c8; omega
theorem c32_nonneg (x : UInt32) : 0 ≤ c32 x := by unfold c32; omega
theorem c32_lt (x : UInt32) : c32 x < 4294967296 := by have := x.toNat_lt; unfold c32; omega
theorem c64_nonneg (x : UInt64) : 0 ≤ c64 x := by unfold c64; omega
theorem c64_lt (x : UInt64) : c64 x < 18446744073709551616 := by have := x.toNat_lt; unfold c64; omega

theorem wrap_c8 (n : Nat) : IntKind.u8.wrap (n : Int) = c8 (UInt8.ofNat n) := by
  rw [IntKind.wrap_u8']; unfold c8; rw [UInt8.toNat_ofNat']; omega
theorem wrap_c32 (n : Nat) : IntKind.u32.wrap (n : Int) = c32 (UInt32.ofNat n) := by
  rw [IntKind.wrap_u32']; unfold c32; rw [UInt32.toNat_ofNat']; omega

theorem bv32 (x : UInt32) : BitVec.ofInt 32 (c32 x) = x.toBitVec := by
  unfold c32; apply BitVec.eq_of_toNat_eq; rw [BitVec.ofInt_natCast, BitVec.toNat_ofNat]; exact Nat.mod_eq_of_lt x.toNat_lt
theorem bv8 (x : UInt8) : BitVec.ofInt 8 (c8 x) = x.toBitVec := by
  unfold c8; apply BitVec.eq_of_toNat_eq; rw [BitVec.ofInt_natCast, BitVec.toNat_ofNat]; exact Nat.mod_eq_of_lt x.toNat_lt
theorem back32 (x : UInt32) : IntKind.u32.wrap (x.toBitVec.toNat : Int) = c32 x := by
  have := x.toNat_lt
  rw [IntKind.wrap_u32']; show ((x.toNat : Nat) : Int) % _ = _; unfold c32; omega
theorem back8 (x : UInt8) : IntKind.u8.wrap (x.toBitVec.toNat : Int) = c8 x := by
  have := x.toNat_lt
  rw [IntKind.wrap_u8']; show ((x.toNat : Nat) : Int) % _ = _; unfold c8; omega

theorem i32_xor (x y : UInt32) : Op.intBits .xor .u32 (c32 x) (c32 y) = pure (.int .u32 (c32 (x ^^^ y))) := by
  show (pure (Value.int .u32 (IntKind.u32.wrap ((BitVec.ofInt 32 (c32 x) ^^^ BitVec.ofInt 32 (c32 y)).toNat : Int))) : Sem Value) = _
  rw [bv32, bv32]; exact congrArg _ (congrArg _ (back32 (x ^^^ y)))
theorem i32_and (x y : UInt32) : Op.intBits .and .u32 (c32 x) (c32 y) = pure (.int .u32 (c32 (x &&& y))) := by
  show (pure (Value.int .u32 (IntKind.u32.wrap ((BitVec.ofInt 32 (c32 x) &&& BitVec.ofInt 32 (c32 y)).toNat : Int))) : Sem Value) = _
  rw [bv32, bv32]; exact congrArg _ (congrArg _ (back32 (x &&& y)))
theorem i32_or (x y : UInt32) : Op.intBits .or .u32 (c32 x) (c32 y) = pure (.int .u32 (c32 (x ||| y))) := by
  show (pure (Value.int .u32 (IntKind.u32.wrap ((BitVec.ofInt 32 (c32 x) ||| BitVec.ofInt 32 (c32 y)).toNat : Int))) : Sem Value) = _
  rw [bv32, bv32]; exact congrArg _ (congrArg _ (back32 (x ||| y)))
theorem i32_not (x : UInt32) : Op.unary .xor (.int .u32 (c32 x)) = pure (.int .u32 (c32 (~~~x))) := by
  have h : Op.unary .xor (.int .u32 (c32 x)) = Op.intBits .xor .u32 IntKind.u32.max (c32 x) := rfl
  have e : IntKind.u32.max = c32 0xffffffff := by decide
  rw [h, e, i32_xor]
  have e2 : (0xffffffff : UInt32) ^^^ x = ~~~x := by
    apply UInt32.eq_of_toBitVec_eq
    show BitVec.allOnes 32 ^^^ x.toBitVec = ~~~x.toBitVec
    exact BitVec.allOnes_xor
  rw [e2]
theorem i32_add (x y : UInt32) : Op.intArith .add .u32 (c32 x) (c32 y) = pure (.int .u32 (c32 (x + y))) := by
  show (pure (Value.int .u32 (IntKind.u32.wrap (c32 x + c32 y))) : Sem Value) = _
  congr 2
theorem i32_sub0 (y : UInt32) : Op.unary .neg (.int .u32 (c32 y)) = pure (.int .u32 (c32 (-y))) := by
  rw [← UInt32.zero_sub]
  have hy := y.toNat_lt
  show (pure (Value.int .u32 (IntKind.u32.wrap (0 - c32 y))) : Sem Value) = _
  congr 2; unfold c32; rw [IntKind.wrap_u32', UInt32.toNat_sub]; simp only [UInt32.toNat_zero]; omega
theorem i32_shr (x : UInt32) (yk : IntKind) (n : Nat) (hn : n < 32) : Op.shift .shr .u32 (c32 x) yk (n : Int) = pure (.int .u32 (c32 (x >>> UInt32.ofNat n))) := by
  have hs : Op.shift .shr .u32 (c32 x) yk (n : Int) = pure (.int .u32 (c32 x / 2 ^ min (n : Int).toNat 32)) := shift_shr_any _ _ _ _ (by omega)
  rw [hs]; congr 2
  rw [show min (n : Int).toNat 32 = n by omega]
  unfold c32
  rw [UInt32.toNat_shiftRight, UInt32.toNat_ofNat', Nat.mod_eq_of_lt (show n < 2 ^ 32 by omega), Nat.mod_eq_of_lt hn, Nat.shiftRight_eq_div_pow]
  rw [Int.natCast_ediv]; congr 1

theorem conv_8_32 (x : UInt8) : Conv.intToInt .u32 (c8 x) = pure (.int .u32 (c32 x.toUInt32)) := by
  have := x.toNat_lt
  show (pure (Value.int .u32 (IntKind.u32.wrap (c8 x))) : Sem Value) = _
  congr 2; rw [IntKind.wrap_u32']; unfold c8 c32; rw [UInt8.toNat_toUInt32]; omega
theorem conv_32_8 (x : UInt32) : Conv.intToInt .u8 (c32 x) = pure (.int .u8 (c8 x.toUInt8)) := by
  show (pure (Value.int .u8 (IntKind.u8.wrap (c32 x))) : Sem Value) = _
  congr 2
theorem wrap_8_32 (x : UInt8) : IntKind.u32.wrap (c8 x) = c32 x.toUInt32 := by
  have := x.toNat_lt
  rw [IntKind.wrap_u32']; unfold c8 c32; rw [UInt8.toNat_toUInt32]; omega
theorem wrap_32_8 (x : UInt32) : IntKind.u8.wrap (c32 x) = c8 x.toUInt8 := rfl
theorem i32_shr1 (x : UInt32) (yk : IntKind) : Op.shift .shr .u32 (c32 x) yk 1 = pure (.int .u32 (c32 (x >>> 1))) := i32_shr x yk 1 (by omega)
theorem i32_shr8 (x : UInt32) (yk : IntKind) : Op.shift .shr .u32 (c32 x) yk 8 = pure (.int .u32 (c32 (x >>> 8))) := i32_shr x yk 8 (by omega)
theorem i32_shr16 (x : UInt32) (yk : IntKind) : Op.shift .shr .u32 (c32 x) yk 16 = pure (.int .u32 (c32 (x >>> 16))) := i32_shr x yk 16 (by omega)
theorem i32_shr24 (x : UInt32) (yk : IntKind) : Op.shift .shr .u32 (c32 x) yk 24 = pure (.int .u32 (c32 (x >>> 24))) := i32_shr x yk 24 (by omega)

theorem bv64 (x : UInt64) : BitVec.ofInt 64 (c64 x) = x.toBitVec := by
  unfold c64; apply BitVec.eq_of_toNat_eq; rw [BitVec.ofInt_natCast, BitVec.toNat_ofNat]; exact Nat.mod_eq_of_lt x.toNat_lt
theorem back64 (x : UInt64) : IntKind.u64.wrap (x.toBitVec.toNat : Int) = c64 x := by
  have := x.toNat_lt
  rw [IntKind.wrap_u64]; show ((x.toNat : Nat) : Int) % _ = _; unfold c64; omega
theorem i64_xor (x y : UInt64) : Op.intBits .xor .u64 (c64 x) (c64 y) = pure (.int .u64 (c64 (x ^^^ y))) := by
  show (pure (Value.int .u64 (IntKind.u64.wrap ((BitVec.ofInt 64 (c64 x) ^^^ BitVec.ofInt 64 (c64 y)).toNat : Int))) : Sem Value) = _
  rw [bv64, bv64]; exact congrArg _ (congrArg _ (back64 (x ^^^ y)))
theorem i64_and (x y : UInt64) : Op.intBits .and .u64 (c64 x) (c64 y) = pure (.int .u64 (c64 (x &&& y))) := by
  show (pure (Value.int .u64 (IntKind.u64.wrap ((BitVec.ofInt 64 (c64 x) &&& BitVec.ofInt 64 (c64 y)).toNat : Int))) : Sem Value) = _
  rw [bv64, bv64]; exact congrArg _ (congrArg _ (back64 (x &&& y)))
theorem i64_or (x y : UInt64) : Op.intBits .or .u64 (c64 x) (c64 y) = pure (.int .u64 (c64 (x ||| y))) := by
  show (pure (Value.int .u64 (IntKind.u64.wrap ((BitVec.ofInt 64 (c64 x) ||| BitVec.ofInt 64 (c64 y)).toNat : Int))) : Sem Value) = _
  rw [bv64, bv64]; exact congrArg _ (congrArg _ (back64 (x ||| y)))
theorem i64_add (x y : UInt64) : Op.intArith .add .u64 (c64 x) (c64 y) = pure (.int .u64 (c64 (x + y))) := by
  show (pure (Value.int .u64 (IntKind.u64.wrap (c64 x + c64 y))) : Sem Value) = _
  congr 2
theorem i64_mul (x y : UInt64) : Op.intArith .mul .u64 (c64 x) (c64 y) = pure (.int .u64 (c64 (x * y))) := by
  show (pure (Value.int .u64 (IntKind.u64.wrap (c64 x * c64 y))) : Sem Value) = _
  congr 2
theorem i64_shr (x : UInt64) (yk : IntKind) (n : Nat) (hn : n < 64) : Op.shift .shr .u64 (c64 x) yk (n : Int) = pure (.int .u64 (c64 (x >>> UInt64.ofNat n))) := by
  have hs : Op.shift .shr .u64 (c64 x) yk (n : Int) = pure (.int .u64 (c64 x / 2 ^ min (n : Int).toNat 64)) := shift_shr_any _ _ _ _ (by omega)
  rw [hs]; congr 2
  rw [show min (n : Int).toNat 64 = n by omega]
  unfold c64
  rw [UInt64.toNat_shiftRight, UInt64.toNat_ofNat', Nat.mod_eq_of_lt (show n < 2 ^ 64 by omega), Nat.mod_eq_of_lt hn, Nat.shiftRight_eq_div_pow]
  rw [Int.natCast_ediv]; congr 1
theorem wrap_8_64 (x : UInt8) : IntKind.u64.wrap (c8 x) = c64 x.toUInt64 := by
  have := x.toNat_lt
  rw [IntKind.wrap_u64]; unfold c8 c64; rw [UInt8.toNat_toUInt64]; omega

theorem w64_add (x y : UInt64) : IntKind.u64.wrap (c64 x + c64 y) = c64 (x + y) := rfl
theorem w64_mul (x y : UInt64) : IntKind.u64.wrap (c64 x * c64 y) = c64 (x * y) := rfl
theorem w64_sub (x y : UInt64) : IntKind.u64.wrap (c64 x - c64 y) = c64 (x - y) := by
  have hx := x.toNat_lt; have hy := y.toNat_lt
  unfold c64; rw [IntKind.wrap_u64, UInt64.toNat_sub]; omega
theorem w32_add (x y : UInt32) : IntKind.u32.wrap (c32 x + c32 y) = c32 (x + y) := rfl
theorem w32_mul (x y : UInt32) : IntKind.u32.wrap (c32 x * c32 y) = c32 (x * y) := rfl
theorem w32_sub (x y : UInt32) : IntKind.u32.wrap (c32 x - c32 y) = c32 (x - y) := by
  have hx := x.toNat_lt; have hy := y.toNat_lt
  unfold c32; rw [IntKind.wrap_u32', UInt32.toNat_sub]; omega
theorem w8_add (x y : UInt8) : IntKind.u8.wrap (c8 x + c8 y) = c8 (x + y) := rfl
theorem c64_div_two_pow (x : UInt64) (n : Nat) (hn : n < 64) : c64 x / 2 ^ n = c64 (x >>> UInt64.ofNat n) := by
  unfold c64
  rw [UInt64.toNat_shiftRight, UInt64.toNat_ofNat', Nat.mod_eq_of_lt (show n < 2 ^ 64 by omega), Nat.mod_eq_of_lt hn, Nat.shiftRight_eq_div_pow, Int.natCast_ediv]
  simp
theorem c32_div_two_pow (x : UInt32) (n : Nat) (hn : n < 32) : c32 x / 2 ^ n = c32 (x >>> UInt32.ofNat n) := by
  unfold c32
  rw [UInt32.toNat_shiftRight, UInt32.toNat_ofNat', Nat.mod_eq_of_lt (show n < 2 ^ 32 by omega), Nat.mod_eq_of_lt hn, Nat.shiftRight_eq_div_pow, Int.natCast_ediv]
  simp
theorem c64_inj {x y : UInt64} : c64 x = c64 y ↔ x = y := by unfold c64; rw [← UInt64.toNat_inj]; omega
theorem c32_inj {x y : UInt32} : c32 x = c32 y ↔ x = y := by unfold c32; rw [← UInt32.toNat_inj]; omega
theorem c8_inj {x y : UInt8} : c8 x = c8 y ↔ x = y := by unfold c8; rw [← UInt8.toNat_inj]; omega
theorem c64_beq (x y : UInt64) : (c64 x == c64 y) = (x == y) := by rw [Bool.eq_iff_iff]; simp [c64_inj]
theorem c32_beq (x y : UInt32) : (c32 x == c32 y) = (x == y) := by rw [Bool.eq_iff_iff]; simp [c32_inj]
theorem c8_beq (x y : UInt8) : (c8 x == c8 y) = (x == y) := by rw [Bool.eq_iff_iff]; simp [c8_inj]

/-- The walk stands still here. -/
def Stop (p : Prop) : Prop := p
theorem stop_here {p : Prop} (h : Stop p) : p := h

/-! ### Cells that are read -/

/-- From address A on these cells stand. -/
def Rc (w : World) (A : Option Addr) (cs : List Value) : Prop := ∀ j u, cs[j]? = some u → ∃ ad, A = some ad ∧ w.cell? (ad.add j) = some u

theorem Rc.nil (w : World) (A : Option Addr) : Rc w A [] := fun j u h => by simp at h
theorem Rc.below {B : Nat} {w w' : World} {A : Option Addr} {cs : List Value} (h : Rc w A cs) (hb : Below B w w') (hB : ∀ ad, A = some ad → ad.block < B) : Rc w' A cs := by
  intro j u hj
  obtain ⟨ad, e, hc⟩ := h j u hj
  refine ⟨ad, e, ?_⟩
  have hbk : (ad.add j).block = ad.block := by unfold Addr.add; split <;> rfl
  exact (hb.cell (by rw [hbk]; exact hB ad e)).trans hc
theorem Rc.below' {w w' : World} {A : Option Addr} {cs : List Value} (h : Rc w A cs) (hb : Below w.heap.size w w') : Rc w' A cs := by
  intro j u hj
  obtain ⟨ad, e, hc⟩ := h j u hj
  exact ⟨ad, e, (hb.cell (World.block_lt_of_cell? w _ hc)).trans hc⟩
theorem Rc.grown {w w' : World} {A : Option Addr} {cs : List Value} {row : Option Nat} (h : Rc w A cs) (hg : w.grownBy w' row) (hne : ∀ ad, A = some ad → some ad.block ≠ row) : Rc w' A cs := by
  intro j u hj
  obtain ⟨ad, e, hc⟩ := h j u hj
  have hbk : (ad.add j).block = ad.block := by unfold Addr.add; split <;> rfl
  exact ⟨ad, e, hg.cell hc (by rw [hbk]; exact hne ad e)⟩
theorem Rc.alloc {w : World} {A : Option Addr} {cs : List Value} (h : Rc w A cs) (o : Obj) : Rc (w.alloc o) A cs := h.below' ((Below.refl _ _).alloc (Nat.le_refl _) o)
theorem Rc.drew {w : World} {A : Option Addr} {cs : List Value} (h : Rc w A cs) : Rc w.drew A cs := h
theorem Rc.drewN {w : World} {A : Option Addr} {cs : List Value} (h : Rc w A cs) (n : Nat) : Rc (w.drewN n) A cs := h
theorem Rc.some_ {w : World} {ad : Addr} {cs : List Value} (h : Rc w (some ad) cs) : ∀ j u, cs[j]? = some u → w.cell? (ad.add j) = some u := by
  intro j u hj
  obtain ⟨ad', e, hc⟩ := h j u hj
  cases e; exact hc
theorem Rc.of_some {w : World} {ad : Addr} {cs : List Value} (h : ∀ j u, cs[j]? = some u → w.cell? (ad.add j) = some u) : Rc w (some ad) cs := fun j u hj => ⟨ad, rfl, h j u hj⟩
theorem Rc.none_ {w : World} {cs : List Value} (h : Rc w none cs) : cs = [] := by
  cases cs with
  | nil => rfl
  | cons a l => obtain ⟨_, e, _⟩ := h 0 a rfl; cases e
theorem Rc.take {w : World} {A : Option Addr} {cs : List Value} (h : Rc w A cs) (k : Nat) : Rc w A (cs.take k) := by
  intro j u hj
  rw [List.getElem?_take] at hj
  split at hj
  · exact h j u hj
  · cases hj
theorem Rc.drop {w : World} {ad : Addr} {cs : List Value} (h : Rc w (some ad) cs) (k : Nat) : Rc w (some (ad.add k)) (cs.drop k) := by
  intro j u hj
  rw [List.getElem?_drop] at hj
  refine ⟨_, rfl, ?_⟩
  have := h.some_ (k + j) u hj
  have e : (ad.add k).add j = ad.add (k + j) := by
    unfold Addr.add
    by_cases hk : k = 0
    · simp [hk]
    · by_cases hj0 : j = 0
      · simp [hk, hj0]
      · simp [hk, hj0, Nat.add_assoc]
  rw [e]; exact this

/-- A slice of n elements whose cells read so. -/
def Sl (w : World) (v : Value) (n : Nat) (cs : List Value) : Prop :=
  ∃ A c, v = .slice A n c ∧ n ≤ c ∧ c ≤ 9223372036854775807 ∧ (A = none → c = 0) ∧ Rc w A cs
theorem Sl.below {w w' : World} {v : Value} {n : Nat} {cs : List Value} (h : Sl w v n cs) (hb : Below w.heap.size w w') : Sl w' v n cs := by
  obtain ⟨A, c, e, h1, h2, h3, h4⟩ := h
  exact ⟨A, c, e, h1, h2, h3, h4.below' hb⟩
theorem sl_nil (w : World) : Sl w (.slice none 0 0) 0 [] := ⟨none, 0, rfl, by omega, by omega, fun _ => rfl, Rc.nil _ _⟩

theorem sl_of_own {w : World} {base : Nat} {e : TypeId} {size n : Nat} {v : Value} {xs : List Value} (h : w.ownsRow base e size v n xs) : Sl w v n xs := by
  rcases h.2 with ⟨rfl, rfl⟩ | ⟨g, cap, cur, rfl, hb, hg, hn, hm, hcs, ht⟩
  · have : xs = [] := List.eq_nil_of_length_eq_zero (by simpa using h.1)
    subst this; exact sl_nil w
  · refine ⟨_, _, rfl, hn, by simpa [maxLen] using hm, by simp, Rc.of_some ?_⟩
    exact h.cells rfl

/-- Bytes as cells. -/
def bs (xs : List UInt8) : List Value := xs.map fun x => .int .u8 (c8 x)
theorem bs_length (xs : List UInt8) : (bs xs).length = xs.length := by simp [bs]
theorem bs_append (xs ys : List UInt8) : bs (xs ++ ys) = bs xs ++ bs ys := by simp [bs]
theorem bs_take (xs : List UInt8) (k : Nat) : (bs xs).take k = bs (xs.take k) := by simp [bs, List.map_take]
theorem bs_drop (xs : List UInt8) (k : Nat) : (bs xs).drop k = bs (xs.drop k) := by simp [bs, List.map_drop]
theorem bs_get (xs : List UInt8) {i : Nat} (h : i < xs.length) : (bs xs)[i]? = some (.int .u8 (c8 (xs.getD i 0))) := by simp [bs, h]
theorem bs_one (xs : List UInt8) : ∀ u ∈ bs xs, u.oneCell' = true := by
  intro u hu; obtain ⟨_, _, rfl⟩ := List.mem_map.1 hu; rfl

/-- A slice of these bytes. -/
abbrev RdB (w : World) (A : Option Addr) (xs : List UInt8) : Prop := Rc w A (bs xs)
def SlB (w : World) (v : Value) (xs : List UInt8) : Prop := Sl w v xs.length (bs xs)
theorem SlB.below {w w' : World} {v : Value} {xs : List UInt8} (h : SlB w v xs) (hb : Below w.heap.size w w') : SlB w' v xs := Sl.below h hb
theorem slB_nil (w : World) : SlB w (.slice none 0 0) [] := sl_nil w
theorem slB_of_own {w : World} {base : Nat} {e : TypeId} {n : Nat} {v : Value} {xs : List UInt8} (h : w.ownsRow base e 1 v n (bs xs)) : SlB w v xs := by
  have hl := h.1
  rw [bs_length] at hl
  have : n = xs.length := by omega
  subst this; exact sl_of_own h

theorem RdB.cell {w : World} {A : Option Addr} {xs : List UInt8} (h : RdB w A xs) {i : Nat} (hi : i < xs.length) :
    ∃ ad, A = some ad ∧ w.cell? (ad.add i) = some (.int .u8 (c8 (xs.getD i 0))) := h i _ (bs_get xs hi)

/-! ### append -/

section
variable {P : Program} (w : World) {ops : Array Oper} {rest : List Oper} {o : Oper} {a : Act} {Q : Exit → Act → World → Prop}

/-- 'append' onto a slice without room. -/
theorem wpl_ap_grow (hg : o.guard = none) (s x : Operand) (t : TypeId) (hop : o.op = Op.call { callee := Callee.builtin Builtin.append, args := #[s, x], argTypes := #[t, t] })
    {e : TypeId} {z : Value} {size bytes : Nat} (h1 : P.underlying t = some (.slice e)) (h2 : (P.info? e).map (fun i => (i.zero, i.size, i.bytes)) = some (some z, size, bytes)) (h6 : z.cells.size = size) (h7 : 0 < size)
    {ao : Option Addr} {n cap : Nat} (olds : List Value) (hs : a.eval s = .slice ao n cap) (hnone : ao = none → cap = 0) (hncap : n ≤ cap) (hlo : olds.length = n * size) (holds : Rc w ao olds)
    {ax : Option Addr} {m c : Nat} (news : List Value) (hx : a.eval x = .slice ax m c) (hn : news.length = m * size) (hc : Rc w ax news) (h1c : ∀ u ∈ news, u.oneCell' = true)
    (hfull : cap < n + m) (b1 : n + m ≤ 9223372036854775807) (b2 : (n + m) * bytes ≤ 140737488355328)
    (hK : ∀ v' w', w'.ownsRow w.heap.size e size v' (n + m) (olds ++ news) → w.grownBy w' none → wpList P ops Q rest (a.put o.dst v') w') :
    wpList P ops Q (o :: rest) a w := by
  obtain ⟨i, hi, hz0, hz1, hz2⟩ := info_parts h2
  cases ax with
  | none =>
    have := hc.none_
    subst this
    have : m = 0 := by
      rcases Nat.mul_eq_zero.1 (show m * size = 0 by simpa using hn.symm) with h | h <;> omega
    omega
  | some ad =>
    exact wpList_append_grows w hg s x t hop e i z size bytes h1 hi hz0 hz1 hz2 h6 h7 ao n cap olds hs (fun h => ⟨by have := hnone h; omega, hnone h⟩) hlo
      (fun b hb j u hj => by subst hb; exact holds.some_ j u hj) ad m c news hx hn hc.some_ h1c hfull (by unfold maxLen; omega) b2 hK

/-- 'append' onto a slice of the call's own. -/
theorem wpl_ap_own (hg : o.guard = none) (s x : Operand) (t : TypeId) (hop : o.op = Op.call { callee := Callee.builtin Builtin.append, args := #[s, x], argTypes := #[t, t] })
    {base : Nat} {e : TypeId} {z : Value} {size bytes : Nat} (h1 : P.underlying t = some (.slice e)) (h2 : (P.info? e).map (fun i => (i.zero, i.size, i.bytes)) = some (some z, size, bytes)) (h6 : z.cells.size = size) (h7 : 0 < size)
    {v : Value} {n : Nat} {xs : List Value} (hs : a.eval s = v) (hown : w.ownsRow base e size v n xs)
    {ax : Option Addr} {m c : Nat} (news : List Value) (hx : a.eval x = .slice ax m c) (hcn : ax = none → c = 0) (hmc : m ≤ c) (hn : news.length = m * size) (hc : Rc w ax news) (h1c : ∀ u ∈ news, u.oneCell' = true)
    (b1 : n + m ≤ 9223372036854775807) (b2 : (n + m) * bytes ≤ 140737488355328) (hbase : base ≤ w.heap.size)
    (hK : ∀ v' w', w'.ownsRow base e size v' (n + m) (xs ++ news) → w.grownBy w' v.ownBlock → wpList P ops Q rest (a.put o.dst v') w') :
    wpList P ops Q (o :: rest) a w := by
  obtain ⟨i, hi, hz0, hz1, hz2⟩ := info_parts h2
  cases ax with
  | none =>
    have h0 := hc.none_
    subst h0
    have hm : m = 0 := by
      rcases Nat.mul_eq_zero.1 (show m * size = 0 by simpa using hn.symm) with h | h <;> omega
    subst hm
    obtain rfl : c = 0 := hcn rfl
    exact wpList_append_own_none hg s x t hop base e i size h1 hi v n xs hs hown hx (by simpa using hK v w (by simpa using hown) (World.grownBy.refl _ _))
  | some ad =>
    exact wpList_append_own w hg s x t hop base e i z size bytes h1 hi hz0 hz1 hz2 h6 h7 v n xs hs hown ad m c news hx hn hc.some_ h1c (by unfold maxLen; omega) b2 hbase
      (fun v' w' q1 q2 _ => hK v' w' q1 q2)
end

/-- The block of a new row of cells reads as these. -/
theorem rc_new (w : World) (cs : List Value) (t : TypeId) : Rc (w.alloc (.cells cs.toArray t)) (some ⟨w.heap.size, 0, none⟩) cs := by
  refine Rc.of_some fun j u hj => ?_
  rw [Addr.add_lit, Nat.zero_add, cell_of_row _ _ _ _ _ _ (heap_alloc_new w _)]
  simpa using hj

theorem own_weaken {w : World} {base base' : Nat} {e : TypeId} {size n : Nat} {v : Value} {xs : List Value} (h : w.ownsRow base e size v n xs) (hb : base' ≤ base) : w.ownsRow base' e size v n xs := by
  refine ⟨h.1, ?_⟩
  rcases h.2 with hn | ⟨g, cap, cur, e1, h1, rest⟩
  · exact .inl hn
  · exact .inr ⟨g, cap, cur, e1, by omega, rest⟩

/-- A slice that is the call's own, of these bytes. -/
def OwB (B : Nat) (w : World) (v : Value) (xs : List UInt8) : Prop := w.ownsRow B 5 1 v xs.length (bs xs)
theorem OwB.sl {B : Nat} {w : World} {v : Value} {xs : List UInt8} (h : OwB B w v xs) : SlB w v xs := slB_of_own h
theorem OwB.mono {B B' : Nat} {w : World} {v : Value} {xs : List UInt8} (h : OwB B w v xs) (hb : B' ≤ B) : OwB B' w v xs := own_weaken h hb
theorem own_below {w w' : World} {base : Nat} {e : TypeId} {size n : Nat} {v : Value} {xs : List Value} (h : w.ownsRow base e size v n xs) (hb : Below w.heap.size w w') : w'.ownsRow base e size v n xs :=
  h.kept (row := none) ⟨hb.os, hb.tape, hb.output, hb.size, fun k hk _ => hb.block k hk⟩ (by cases hv : v.ownBlock <;> simp)
theorem OwB.below {B : Nat} {w w' : World} {v : Value} {xs : List UInt8} (h : OwB B w v xs) (hb : Below w.heap.size w w') : OwB B w' v xs := own_below h hb
theorem OwB.nil (B : Nat) (w : World) : OwB B w (.slice none 0 0) [] := World.ownsRow_nil _ _ _ _

theorem info8 : (Try.prog.info? 5).map (fun i => (i.zero, i.size, i.bytes)) = some (some (.int .u8 0), 1, 1) := by kernel_rfl

/-- 'append' of bytes onto a slice of the call's own, made behind block B. -/
theorem wpl_apB {w : World} {ops : Array Oper} {rest : List Oper} {o : Oper} {a : Act} {Q : Exit → Act → World → Prop}
    (hg : o.guard = none) (s x : Operand) (hop : o.op = Op.call { callee := Callee.builtin Builtin.append, args := #[s, x], argTypes := #[56, 56] })
    {B : Nat} {v vx : Value} {xs ys : List UInt8} (hs : a.eval s = v) (hown : OwB B w v xs) (hx : a.eval x = vx) (hsrc : SlB w vx ys)
    (hlen : xs.length + ys.length ≤ 140737488355328) (hB : B ≤ w.heap.size)
    (hK : ∀ v' w', OwB B w' v' (xs ++ ys) → Below B w w' → wpList Try.prog ops Q rest (a.put o.dst v') w') : wpList Try.prog ops Q (o :: rest) a w := by
  obtain ⟨A, c, rfl, hc, hcm, hA, hr⟩ := hsrc
  refine wpl_ap_own (size := 1) (bytes := 1) (base := B) w hg s x 56 hop Try.underlying56 info8 rfl (by decide) hs hown (bs ys) hx hA hc (by simp [bs]) hr (bs_one _) (by omega) (by omega) hB ?_
  intro v' w' ho hgr
  refine hK v' w' ?_ (Below.grown (Below.refl _ _) hgr hB (fun k hk => (World.ownsRow.lt hown k hk).1))
  unfold OwB; rw [List.length_append, bs_append]; exact ho

/-- 'append([]byte(nil), x...)': a copy. -/
theorem wpl_cpB {w : World} {ops : Array Oper} {rest : List Oper} {o : Oper} {a : Act} {Q : Exit → Act → World → Prop}
    (hg : o.guard = none) (s x : Operand) (hop : o.op = Op.call { callee := Callee.builtin Builtin.append, args := #[s, x], argTypes := #[56, 56] })
    {vx : Value} {ys : List UInt8} (hs : a.eval s = .slice none 0 0) (hx : a.eval x = vx) (hsrc : SlB w vx ys) (hlen : ys.length ≤ 140737488355328)
    (hK : ∀ v' w', OwB w.heap.size w' v' ys → Below w.heap.size w w' → wpList Try.prog ops Q rest (a.put o.dst v') w') : wpList Try.prog ops Q (o :: rest) a w :=
  wpl_apB (B := w.heap.size) hg s x hop hs (OwB.nil _ _) hx hsrc (by simpa using hlen) (Nat.le_refl _) hK

/-! ### Parts of slices -/

/-- Where a part of a slice begins. -/
def slA (a : Option Addr) (l m s : Nat) : Option Addr := if m = l then a else a.map (·.add (l * s))
theorem sliced_slA (a : Option Addr) (l h m s : Nat) : sliced a l h m s = .slice (slA a l m s) (h - l) (m - l) := rfl
@[go_sem, simp] theorem slA_zero (a : Option Addr) (m s : Nat) : slA a 0 m s = a := by
  unfold slA; split
  · rfl
  · cases a <;> simp [Addr.add]
section
variable {P : Program} (w : World) (t : TypeId) (a : Option Addr) (len cap : Nat) (ht : P.underlying t = some (.slice (P.elem t)))
include ht
theorem rs_l (kl : IntKind) (l : Int) (h0 : 0 ≤ l) (h1 : l ≤ len) : (Instr.slice t (.slice a len cap) (some (.int kl l)) none none).run P w =
    ((sizeOf (P.elem t)).run P w).andThen fun s w => .ok (.slice (slA a l.toNat cap s) (len - l.toNat) (cap - l.toNat)) w := run_slice_l w t a len cap ht kl l h0 h1
theorem rs_lh (kl kh : IntKind) (l h : Int) (h0 : 0 ≤ l) (h1 : l ≤ h) (h2 : h ≤ cap) : (Instr.slice t (.slice a len cap) (some (.int kl l)) (some (.int kh h)) none).run P w =
    ((sizeOf (P.elem t)).run P w).andThen fun s w => .ok (.slice (slA a l.toNat cap s) (h.toNat - l.toNat) (cap - l.toNat)) w := run_slice_lh w t a len cap ht kl kh l h h0 h1 h2
theorem rs_lhm (kl kh km : IntKind) (l h m : Int) (h0 : 0 ≤ l) (h1 : l ≤ h) (h2 : h ≤ m) (h3 : m ≤ cap) : (Instr.slice t (.slice a len cap) (some (.int kl l)) (some (.int kh h)) (some (.int km m))).run P w =
    ((sizeOf (P.elem t)).run P w).andThen fun s w => .ok (.slice (slA a l.toNat m.toNat s) (h.toNat - l.toNat) (m.toNat - l.toNat)) w := run_slice_lhm w t a len cap ht kl kh km l h m h0 h1 h2 h3
theorem rs_h (kh : IntKind) (h : Int) (h0 : 0 ≤ h) (h2 : h ≤ cap) : (Instr.slice t (.slice a len cap) none (some (.int kh h)) none).run P w =
    ((sizeOf (P.elem t)).run P w).andThen fun _ w => .ok (.slice a h.toNat cap) w := by
  rw [run_slice_h w t a len cap ht kh h h0 h2]; congr 1; funext s w'; rw [sliced_slA, slA_zero]; rfl
theorem rs_hm (kh km : IntKind) (h m : Int) (h0 : 0 ≤ h) (h2 : h ≤ m) (h3 : m ≤ cap) : (Instr.slice t (.slice a len cap) none (some (.int kh h)) (some (.int km m))).run P w =
    ((sizeOf (P.elem t)).run P w).andThen fun _ w => .ok (.slice a h.toNat m.toNat) w := by
  rw [run_slice_hm w t a len cap ht kh km h m h0 h2 h3]; congr 1; funext s w'; rw [sliced_slA, slA_zero]; rfl
theorem rs_any (lo hi mx : Option Value) : (Instr.slice t (.slice a len cap) lo hi mx).run P w =
    ((Instr.sliceBounds true len cap lo hi mx).run P w).andThen fun b w => ((sizeOf (P.elem t)).run P w).andThen fun s w => .ok (.slice (slA a b.1 b.2.2 s) (b.2.1 - b.1) (b.2.2 - b.1)) w := run_slice_any w t a len cap ht lo hi mx
theorem rs_all : (Instr.slice t (.slice a len cap) none none none).run P w = ((sizeOf (P.elem t)).run P w).andThen fun _ w => .ok (.slice a len cap) w := by
  rw [run_slice_all w t a len cap ht]; congr 1; funext s w'; rw [sliced_slA, slA_zero]; rfl
end
theorem min2_int (k k' : IntKind) (x y : Int) : Builtin.min2 (.int k x) (.int k' y) = pure (.int k (if y < x then y else x)) := by simp only [Builtin.min2]
theorem min_two (ats : Array TypeId) (ty : TypeId) (a b : Value) : Builtin.min_ ats ty #[a, b] = (Builtin.min2 a b >>= fun s => pure s) := by simp only [Builtin.min_, List.foldlM_cons, List.foldlM_nil]
theorem sl_slice {w : World} {A : Option Addr} {n c s : Nat} {cs : List Value} (h : Sl w (.slice A n c) n cs) (hs : cs.length = n * s) (l k : Nat) (hl : l ≤ k) (hk : k ≤ n) :
    Sl w (.slice (slA A l c s) (k - l) (c - l)) (k - l) ((cs.drop (l * s)).take ((k - l) * s)) := by
  obtain ⟨A', c', e, hc, hm, hA, hr⟩ := h
  injection e with e1 e2 e3
  subst e1; subst e3
  refine ⟨_, _, rfl, by omega, by omega, ?_, ?_⟩
  · intro h0
    unfold slA at h0
    split at h0
    · omega
    · cases A with
      | none => have := hA rfl; omega
      | some a => simp at h0
  · unfold slA
    split
    · have : cs.drop (l * s) = [] := List.drop_eq_nil_of_le (by rw [hs]; exact Nat.mul_le_mul_right _ (by omega))
      rw [this]; simpa using Rc.nil w A
    · cases A with
      | none =>
        have := hr.none_
        subst this
        simpa using Rc.nil w _
      | some a => exact (hr.drop (l * s)).take _
theorem slB_slice {w : World} {A : Option Addr} {n c : Nat} {xs : List UInt8} (h : SlB w (.slice A n c) xs) (l k : Nat) (hl : l ≤ k) (hk : k ≤ xs.length) :
    SlB w (.slice (slA A l c 1) (k - l) (c - l)) ((xs.drop l).take (k - l)) := by
  have hn : n = xs.length := by obtain ⟨A', c', e, _⟩ := h; injection e
  subst hn
  have := sl_slice (s := 1) h (by simp [bs]) l k hl hk
  simp only [Nat.mul_one, bs_drop, bs_take] at this
  unfold SlB
  rw [List.length_take, List.length_drop, Nat.min_eq_left (by omega)]
  exact this

/-! ### Bytes as strings -/

def str (xs : List UInt8) : ByteArray := ⟨xs.toArray⟩
theorem str_inj {xs ys : List UInt8} : str xs = str ys ↔ xs = ys := by
  constructor
  · intro h
    have : (str xs).data.toList = (str ys).data.toList := by rw [h]
    simpa [str] using this
  · rintro rfl; rfl
theorem str_beq (xs ys : List UInt8) : (str xs == str ys) = decide (xs = ys) := by
  have h : (str xs == str ys) = decide (str xs = str ys) := by
    show (xs.toArray == ys.toArray) = _
    rw [Bool.eq_iff_iff]; simp [str_inj]
  rw [h]; simp [str_inj]

@[go_sem, simp] theorem str_toList (xs : List UInt8) : (str xs).toList = xs := ByteArray.toList_mk xs

theorem conv_sl {P : Program} {src dst e : TypeId} (hs : P.underlying src = some (.slice e)) (he : P.underlying e = some (.int .u8)) (hd : P.underlying dst = some .string)
    {w : World} {v : Value} {xs : List UInt8} (h : SlB w v xs) : (convert src dst v).run P w = .ok (.string (str xs)) w := by
  obtain ⟨A, c, rfl, hc, _, hA, hr⟩ := h
  cases A with
  | some A =>
    have := run_convert_bytes_back (P := P) w src dst e A c xs hs he hd (fun j hj => by
      have := hr.some_ j _ (bs_get xs hj)
      simpa [c8, hj] using this)
    exact this
  | none =>
    have h0 := hr.none_
    have : xs = [] := by cases xs <;> simp_all [bs]
    subst this
    obtain rfl := hA rfl
    rw [run_convert_bytes_string w src dst e _ _ _ hs he hd]
    simp [Conv.bytesToString, str, Sem.run_pure]
    rfl

theorem slB_lit (w : World) (xs : List UInt8) (t : TypeId) (fr : Nat × Nat) (hn : xs.length ≤ 1099511627776) : SlB (w.alloc (.cells (bs xs).toArray t fr)) (.slice (some ⟨w.heap.size, 0, none⟩) xs.length xs.length) xs := by
  refine ⟨_, _, rfl, Nat.le_refl _, by omega, by simp, Rc.of_some fun j u hj => ?_⟩
  rw [Addr.add_lit, Nat.zero_add, cell_of_row _ _ _ _ _ _ (heap_alloc_new w _)]
  simpa using hj


/-- A grown world: nothing that was there has turned. -/
theorem below_grown {B : Nat} {w0 w w' : World} (h : Below B w0 w) (hg : w.grownBy w' none) (hB : B ≤ w.heap.size) : Below B w0 w' := h.grown hg hB (fun k hk => by cases hk)

end Go.Proofs.Ytcaaeimcieooiaa
