/- bits.OnesCount64 (walk). -/
import Derived.Test.YtcaaeimcieooiaaRngP
import Derived.Test.YtcaaeimcieooiaaDg
set_option linter.unusedVariables false
set_option linter.unusedSimpArgs false
set_option maxRecDepth 10000
namespace Go.Proofs.Ytcaaeimcieooiaa
open Go.RowKit

theorem wrap_u (x : Nat) (h : x ≤ 1073741824) : IntKind.u64.wrap (x : Int) = x := by rw [IntKind.wrap_u64]; omega
theorem and_n (x m : Nat) (hx : x ≤ 1073741824) (hm : m ≤ 18446744073709551615) : bits .and .u64 (x : Int) (m : Int) = ((x &&& m : Nat) : Int) := bits_and_u64_nat x m (by omega) (by omega)
theorem w1 (n d M : Nat) (hn : n ≤ 134217728) (hM : M ≤ 18446744073709551615) : IntKind.u64.wrap (bits .and .u64 ((n : Int) / (d : Int)) (M : Int) + bits .and .u64 (n : Int) (M : Int)) = (((n / d &&& M) + (n &&& M) : Nat) : Int) := by
  have a := Nat.and_le_left (n := n / d) (m := M)
  have b := Nat.and_le_left (n := n) (m := M)
  have c := Nat.div_le_self n d
  rw [← Int.natCast_ediv, and_n _ _ (by omega) hM, and_n _ _ (by omega) hM, ← Int.natCast_add, wrap_u _ (by omega)]
theorem w2 (n d : Nat) (hn : n ≤ 134217728) : IntKind.u64.wrap ((n : Int) + (n : Int) / (d : Int)) = ((n + n / d : Nat) : Int) := by
  have c := Nat.div_le_self n d
  rw [← Int.natCast_ediv, ← Int.natCast_add, wrap_u _ (by omega)]
theorem w3 (n d : Nat) (hn : n ≤ 134217728) : IntKind.u64.wrap ((n : Int) / (d : Int) + (n : Int)) = ((n / d + n : Nat) : Int) := by
  have c := Nat.div_le_self n d
  rw [← Int.natCast_ediv, ← Int.natCast_add, wrap_u _ (by omega)]
theorem ones_stages (n : Nat) (h : n < 2 ^ 21) : ∃ s1 s2 s3 s4 y z t : Nat,
    IntKind.u64.wrap (bits .and .u64 ((n : Int) / 2) 6148914691236517205 + bits .and .u64 (n : Int) 6148914691236517205) = (s1 : Int) ∧
    IntKind.u64.wrap (bits .and .u64 ((s1 : Int) / 4) 3689348814741910323 + bits .and .u64 (s1 : Int) 3689348814741910323) = (s2 : Int) ∧
    IntKind.u64.wrap ((s2 : Int) / 16 + s2) = (s3 : Int) ∧ bits .and .u64 (s3 : Int) 1085102592571150095 = (s4 : Int) ∧
    IntKind.u64.wrap ((s4 : Int) + (s4 : Int) / 256) = (y : Int) ∧ IntKind.u64.wrap ((y : Int) + (y : Int) / 65536) = (z : Int) ∧
    IntKind.u64.wrap ((z : Int) + (z : Int) / 4294967296) = (t : Int) ∧ t < 2 ^ 40 ∧ t % 128 = onesN n := by
  have a1 := Nat.and_le_left (n := n / 2) (m := 6148914691236517205)
  have a2 := Nat.and_le_left (n := n) (m := 6148914691236517205)
  have b1 : S1 6148914691236517205 n ≤ 4194304 := by unfold S1; omega
  generalize hs1 : S1 6148914691236517205 n = s1 at b1
  have a3 := Nat.and_le_left (n := s1 / 4) (m := 3689348814741910323)
  have a4 := Nat.and_le_left (n := s1) (m := 3689348814741910323)
  have b2 : S2 3689348814741910323 s1 ≤ 8388608 := by unfold S2; omega
  generalize hs2 : S2 3689348814741910323 s1 = s2 at b2
  have b4 : S3 1085102592571150095 s2 ≤ 16777216 := by have := Nat.and_le_left (n := s2 / 16 + s2) (m := 1085102592571150095); unfold S3; omega
  generalize hs4 : S3 1085102592571150095 s2 = s4 at b4
  refine ⟨s1, s2, s2 / 16 + s2, s4, s4 + s4 / 256, (s4 + s4 / 256) + (s4 + s4 / 256) / 65536, _, ?_, ?_, ?_, ?_, ?_, ?_, w2 ((s4 + s4 / 256) + (s4 + s4 / 256) / 65536) 4294967296 (by omega), by omega, ?_⟩
  · rw [← hs1]; exact w1 n 2 6148914691236517205 (by omega) (by decide)
  · rw [← hs2]; exact w1 s1 4 3689348814741910323 (by omega) (by decide)
  · exact w3 s2 16 (by omega)
  · rw [← hs4]; exact and_n (s2 / 16 + s2) 1085102592571150095 (by omega) (by decide)
  · exact w2 s4 256 (by omega)
  · exact w2 (s4 + s4 / 256) 65536 (by omega)
  · unfold onesN; rw [hs1, hs2, hs4]
set_option maxHeartbeats 4000000 in
theorem ones_any (n : Nat) (w : World) (h : n < 2 ^ 21) : Calls Try.prog 24 #[.int .u64 (n : Int)] w fun e w' => e = .returned (.int .i64 ((popN 21 n : Nat) : Int)) ∧ w = w' := by
  rw [← ones_pop n h]
  obtain ⟨s1, s2, s3, s4, y, z, t, h1, h2, h3, h4, h5, h6, h7, ht, he⟩ := ones_stages n h
  have h8 : bits .and .i64 (t : Int) 127 = ((onesN n : Nat) : Int) := by
    rw [← he]
    have := bits_and_u64_nat t 127 (by omega) (by omega)
    rw [show t &&& 127 = t % 128 from Nat.and_two_pow_sub_one_eq_mod t 7] at this
    have hu : IntKind.u64.wrap ((BitVec.ofInt 64 (t : Int) &&& BitVec.ofInt 64 127).toNat : Int) = ((t % 128 : Nat) : Int) := this
    have hlt := (BitVec.ofInt 64 (t : Int) &&& BitVec.ofInt 64 127).isLt
    show IntKind.i64.wrap ((BitVec.ofInt 64 (t : Int) &&& BitVec.ofInt 64 127).toNat : Int) = ((t % 128 : Nat) : Int)
    generalize (BitVec.ofInt 64 (t : Int) &&& BitVec.ofInt 64 127).toNat = N at *
    rw [IntKind.wrap_u64] at hu
    have hN : N = t % 128 := by omega
    subst hN
    unfold IntKind.wrap; simp [IntKind.bits, IntKind.signed]; omega
  replace he : Hid _ := he
  go_enter Try.func24, Try.ntmps24
  go_wp2_with fail
  go_ret
  exact ⟨rfl, rfl⟩
end Go.Proofs.Ytcaaeimcieooiaa
