/- Roots and primes: the reference's Root, Prime (walks). -/
import Derived.Test.YtbdgnlbbijpfmaaShaL
set_option linter.unusedVariables false
set_option linter.unusedSimpArgs false
namespace Go.Proofs.Ytbdgnlbbijpfmaa
open Go.RowKit

set_option maxRecDepth 10000 in
set_option maxHeartbeats 4000000 in
theorem root_any (p n : Nat) (w : World) (hp : p < 1000) (hn : n ≤ 3) :
    Calls Try.prog 23 #[.int .u64 (p : Int), .int .i64 (n : Int)] w fun e w' => e = .returned (.int .u32 ((rootD p n 38 % 4294967296 : Nat) : Int)) ∧ Below w.heap.size w w' := by
  go_enter Try.func23, Try.ntmps23
  go_wp2_with fail
  go_loopw [5, 6] (fun xx bb wr => ∃ k : Nat, k ≤ 38 ∧ xx = .int .u64 ((rootD p n k : Nat) : Int) ∧ bb = .int .i64 (((38 - k : Nat) : Int) - 1) ∧ Below w.heap.size w wr) (fun _ bb _ => (intOf bb + 1).toNat)
  case atStart => exact ⟨0, by omega, by rfl, by go_num, Below.refl _ _⟩
  case round =>
    obtain ⟨k, hk, rfl, rfl, bw⟩ := hrel
    by_cases hlt : k < 38
    · obtain ⟨b, hb, hb2⟩ : ∃ b : Nat, 38 - k = b + 1 ∧ 37 - k = b := ⟨37 - k, by omega, by omega⟩
      rw [hb, show ((b + 1 : Nat) : Int) - 1 = b by omega]
      have hun : rootD p n (k + 1) = if aboveN (powN (rootD p n k + 2 ^ (37 - k)) n) (zer12.set (2 * n) p) 12 = true then rootD p n k else rootD p n k + 2 ^ (37 - k) := rfl
      have hle := rootD_le p n k hk
      rw [hb2] at hun
      rw [hb] at hle
      have hbb : b ≤ 37 := by omega
      replace hb : Hid _ := hb
      replace hb2 : Hid _ := hb2
      generalize rootD p n k = x at *
      obtain ⟨q, hq⟩ : ∃ q : Nat, 2 ^ b = q := ⟨_, rfl⟩
      have hqb : q ≤ 137438953472 := by
        rw [← hq]; exact Nat.pow_le_pow_right (by omega) hbb
      have hq2 : IntKind.u64.wrap ((2 : Int) ^ b) = (q : Int) := by
        have : (2 : Int) ^ b = (q : Int) := by rw [← hq]; simp
        rw [this, IntKind.wrap_u64]; omega
      rw [Nat.pow_succ] at hle
      rw [hq] at hun hle
      replace hq : Hid _ := hq
      have hy : x + q < 18446744073709551616 := by omega
      have cp := fun w' => power_any (x + q) n w' hy hn
      have ca := fun w' => above_any (powN (x + q) n) p n w' (powN_length _ _) hn
      generalize powN (x + q) n = py at *
      generalize aboveN py (zer12.set (2 * n) p) 12 = ab at *
      have e1 : IntKind.u64.wrap ((x : Int) + q) = ((x + q : Nat) : Int) := by rw [IntKind.wrap_u64]; omega
      replace hun : Hid _ := hun
      replace hq2 : Hid _ := hq2
      clear hle hqb hy
      go_wp2_with fail
      rw [hq2.out, e1]
      clear hq2 e1
      generalize hyy : x + q = y at *
      replace hyy : Hid _ := hyy
      refine (cp _).mono ?_; rintro e w5 ⟨rfl, b5⟩
      go_wp2_with fail
      refine (ca _).mono ?_; rintro e w6 ⟨rfl, b6⟩
      have bw6 := Below.trans bw ((Ext.trans b5 b6).mono bw.size)
      clear cp ca b5 b6
      cases ab
      · go_wp2_with fail
        go_roundw
        case rel => exact ⟨k + 1, by omega, by rw [hun.out, if_neg (by decide)], by rw [show 38 - (k + 1) = b by have := hb2.out; omega], bw6⟩
        case measure => (simp [intOf] <;> omega)
      · go_wp2_with fail
        go_roundw
        case rel => exact ⟨k + 1, by omega, by rw [hun.out, if_pos trivial], by rw [show 38 - (k + 1) = b by have := hb2.out; omega], bw6⟩
        case measure => (simp [intOf] <;> omega)
    · obtain rfl : k = 38 := by omega
      rw [show ((38 - 38 : Nat) : Int) - 1 = -1 by rfl]
      have hcv : IntKind.u32.wrap ((rootD p n 38 : Nat) : Int) = ((rootD p n 38 % 4294967296 : Nat) : Int) := by rw [IntKind.wrap_u32']; omega
      generalize hx : rootD p n 38 = x at *
      replace hx : Hid _ := hx
      go_wp2_with fail
      go_ret
      exact ⟨by rw [hx.out]; go_num, bw⟩
theorem cnt_mono : ∀ (d p : Nat), cntPr p ≤ cntPr (p + d)
  | 0, p => Nat.le_refl _
  | d + 1, p => Nat.le_trans (cnt_mono d p) (Nat.le_add_right _ _)
set_option maxRecDepth 10000 in
set_option maxHeartbeats 4000000 in
theorem prime_any (n : Nat) (w : World) (hn : n < 64) :
    Calls Try.prog 24 #[.int .i64 (n : Int)] w fun e w' => e = .returned (.int .u64 ((prs.getD n 0 : Nat) : Int)) ∧ Below w.heap.size w w' := by
  go_enter Try.func24, Try.ntmps24
  go_wp2_with fail
  go_loop [0, 3] (fun mm pp => ∃ p m : Nat, 2 ≤ p ∧ p ≤ 311 ∧ pp = .int .i64 p ∧ mm = .int .i64 m ∧ Hid (m + cntPr p = n)) (fun _ pp => 312 - (intOf pp).toNat)
  case atStart => exact ⟨2, n, by omega, by omega, rfl, rfl, by unfold Hid; rw [show cntPr 2 = 0 by decide]; rfl⟩
  case round =>
    obtain ⟨p, m, hp, hp2, rfl, rfl, hm⟩ := hrel
    go_wp2_with fail
    go_loop [4, 5] (fun bb qq => ∃ q : Nat, 2 ≤ q ∧ q ≤ p ∧ qq = .int .i64 q ∧ bb = .bool (noDiv p q)) (fun _ qq => p - (intOf qq).toNat)
    case atStart => exact ⟨2, by omega, hp, rfl, by simp [noDiv]⟩
    case round =>
      obtain ⟨q, hq, hq2, rfl, rfl⟩ := hrel
      by_cases hlt : q < p
      · have hltI : (q : Int) < p := by omega
        have hun : noDiv p (q + 1) = (noDiv p q && (q < 2 || p % q != 0)) := rfl
        rw [show decide (q < 2) = false from decide_eq_false (by omega), Bool.false_or] at hun
        have hq0 : ¬ (q : Int) = 0 := by omega
        have hmn : (p : Int) % q = ((p % q : Nat) : Int) := by simp
        by_cases hz : p % q = 0
        · have e1 : ((p : Int).tmod q == 0) = true := by
            rw [Int.tmod_eq_emod_of_nonneg (by omega), beq_iff_eq, hmn, hz]; rfl
          have e2 : ((p : Int) % q == 0) = true := by rw [beq_iff_eq, hmn, hz]; rfl
          rw [hz] at hun
          simp only [bne_self_eq_false, Bool.and_false] at hun
          replace hun : Hid _ := hun
          clear hz hmn
          go_wp2_with fail
          go_round
          case rel => exact ⟨q + 1, by omega, by omega, by go_num, by rw [hun.out]⟩
          case measure => simp [intOf]; omega
        · have e1 : ((p : Int).tmod q == 0) = false := by
            rw [Int.tmod_eq_emod_of_nonneg (by omega), beq_eq_false_iff_ne, hmn]; omega
          have e2 : ((p : Int) % q == 0) = false := by rw [beq_eq_false_iff_ne, hmn]; omega
          have hb : (p % q != 0) = true := by simp [hz]
          rw [hb, Bool.and_true] at hun
          replace hun : Hid _ := hun
          clear hz hmn hb
          go_wp2_with fail
          go_round
          case rel => exact ⟨q + 1, by omega, by omega, by go_num, by rw [hun.out]⟩
          case measure => simp [intOf]; omega
      · obtain rfl : q = p := by omega
        have hpr : noDiv q q = isPr q := rfl
        have hcn : cntPr (q + 1) = cntPr q + if 2 ≤ q && isPr q then 1 else 0 := rfl
        rw [show decide (2 ≤ q) = true from decide_eq_true hp, Bool.true_and] at hcn
        have h311 := cnt_311
        have hpc := prs_cnt ⟨q, by omega⟩ hp
        simp only at hpc
        rw [hpr]
        cases hq1 : isPr q
        · have hne : q ≠ 311 := by intro e; subst e; rw [h311.1] at hq1; cases hq1
          rw [hq1, if_neg (by decide)] at hcn
          replace hcn : Hid _ := hcn
          clear hpc hpr h311 hq1
          go_wp2_with fail
          go_round
          case rel => exact ⟨q + 1, m, by omega, by omega, by go_num, rfl, by have := hcn.out; have := hm.out; unfold Hid; omega⟩
          case measure => simp [intOf]; omega
        · rw [hq1, if_pos rfl] at hcn
          by_cases hm0 : m = 0
          · have hcq : cntPr q = n := by have := hm.out; omega
            have hres := hpc hq1
            rw [hcq] at hres
            subst hm0
            replace hres : Hid _ := hres
            clear hcn hpc hpr h311 hq1 hcq
            go_wp2_with fail
            go_ret
            exact ⟨by rw [← List.getD_eq_getElem?_getD, hres.out]; rfl, Below.refl _ _⟩
          · have hne : q ≠ 311 := by
              intro e; subst e
              have := hm.out; rw [h311.2] at this; omega
            have hmI : ((m : Int) == 0) = false := by rw [beq_eq_false_iff_ne]; omega
            have w0 : IntKind.i64.wrap ((m : Int) - 1) = (m : Int) - 1 := by rw [IntKind.wrap_i64]; have := hm.out; omega
            have hm1 : 1 ≤ m := by omega
            replace hcn : Hid _ := hcn
            clear hpc hpr h311 hq1 hm0
            go_wp2_with fail
            go_round
            case rel => exact ⟨q + 1, m - 1, by omega, by omega, by go_num, by go_num, by have := hcn.out; have := hm.out; unfold Hid; omega⟩
            case measure => simp [intOf]; omega
end Go.Proofs.Ytbdgnlbbijpfmaa
