/- What the reference of chapter 14 computes (walks). -/
import Derived.Test.YtmlndnfehcafgaaCrcW
import Derived.Test.YtmlndnfehcafgaaCrcL
import Derived.Lib.SlBytesConst
set_option linter.unusedVariables false
set_option linter.unusedSimpArgs false
namespace Go.Proofs.Ytmlndnfehcafgaa
open Go.RowKit

theorem refS_any (v : Value) (xs : List UInt8) (w : World) (hn : xs.length ≤ 1099511627776) (hr : SlB w v xs) :
    Calls Try.prog 10 #[v] w fun e w' => e = .returned (.int .u32 (c32 (crcMore 0 xs))) ∧ w = w' := by
  obtain ⟨A, c, rfl, hc, hcm, hA, hrr⟩ := hr
  refine (refSum_any A c xs w hn hrr).mono ?_
  rintro e w' ⟨rfl, rfl⟩
  exact ⟨by rw [refSum_eq], rfl⟩

theorem be32_cells (n : UInt32) : bs (be32 n) = [.int .u8 (c32 n / 16777216), .int .u8 (c32 n / 65536 % 256), .int .u8 (c32 n / 256 % 256), .int .u8 (c32 n % 256)] := by
  have hn := n.toNat_lt
  have e : ∀ k, k < 32 → c8 (n >>> UInt32.ofNat k).toUInt8 = c32 n / 2 ^ k % 256 := fun k hk => by
    rw [c32_div_two_pow n k hk]; rfl
  show [Value.int .u8 (c8 (n >>> UInt32.ofNat 24).toUInt8), Value.int .u8 (c8 (n >>> UInt32.ofNat 16).toUInt8), Value.int .u8 (c8 (n >>> UInt32.ofNat 8).toUInt8), Value.int .u8 (c8 n.toUInt8)] = _
  rw [e 24 (by omega), e 16 (by omega), e 8 (by omega)]
  have e0 : c8 n.toUInt8 = c32 n % 256 := rfl
  have e24 : c32 n / 2 ^ 24 % 256 = c32 n / 16777216 := by unfold c32; omega
  rw [e0, e24]; rfl

set_option maxHeartbeats 400000 in
theorem refPut_any (v : Value) (xs : List UInt8) (w : World) (hn : xs.length ≤ 1099511627776) (hr : SlB w v xs) :
    Calls Try.prog 16 #[v] w fun e w' => ∃ v', e = .returned v' ∧ OwB w.heap.size w' v' (crcPut xs) ∧ Below w.heap.size w w' := by
  have h0 := c32_nonneg (crcMore 0 xs)
  have h1 := c32_lt (crcMore 0 xs)
  have hr' := hr
  obtain ⟨A, c, rfl, hc, hcm, hA, hrr⟩ := hr
  go_enter Try.func16, Try.ntmps16
  go_wp2_with (first | (go_at_call 10; (with_reducible refine (refS_any _ _ _ (by omega) hr').mono ?_); rintro e w' ⟨rfl, rfl⟩) | (at_builtin; go_loud (refine wpl_ap_own (size := 1) (bytes := 1) (base := w.heap.size) _ rfl _ _ 22 rfl Try.underlying22 info8 rfl (by decide) rfl (World.ownsRow_nil w w.heap.size _ 1) (bs xs) rfl hA hc (by simp [bs]) hrr (bs_one _) (by omega) (by omega) (Nat.le_refl _) ?_)))
  intro v1 w1 ho hg
  go_wp2_with (at_builtin; go_loud (refine wpl_ap_own (size := 1) (bytes := 1) (base := w.heap.size) _ rfl _ _ 22 rfl Try.underlying22 info8 rfl (by decide) rfl (ho.alloc _) (bs (be32 (crcMore 0 xs))) rfl (by simp) (by omega) rfl (by rw [be32_cells]; exact rc_new _ _ _) (bs_one _) (by omega) (by omega) (by have := hg.size; simp; omega) ?_))
  intro v2 w2 ho2 hg2
  go_wp2
  go_ret
  refine ⟨_, rfl, ?_, ?_⟩
  · simpa [OwB, crcPut_length, crcPut, bs_append, be32] using ho2
  · have hb1 : Below w.heap.size w w1 := Below.grown (Below.refl _ _) hg (Nat.le_refl _) (by intro k hk; simp [Value.ownBlock] at hk)
    exact Below.grown (hb1.alloc hg.size _) hg2 (by have := hg.size; simp; omega) (fun k hk => (ho.lt k hk).1)

theorem sumV (v : Value) (xs : List UInt8) (w : World) (hn : xs.length ≤ 1099511627776) (hr : SlB w v xs) :
    Calls Try.prog 9 #[v] w fun e w' => e = .returned (.int .u32 (c32 (crcMore 0 xs))) ∧ Below w.heap.size w w' := by
  obtain ⟨A, c, rfl, hc, hcm, hA, hrr⟩ := hr
  exact (sum_any A c xs w (by omega) hrr).mono fun e w' ⟨h1, h2⟩ => ⟨h1, by subst h2; exact Below.refl _ _⟩
theorem moreV (s : UInt32) (v : Value) (xs : List UInt8) (w : World) (hn : xs.length ≤ 1099511627776) (hr : SlB w v xs) :
    Calls Try.prog 11 #[.int .u32 (c32 s), v] w fun e w' => e = .returned (.int .u32 (c32 (crcMore s xs))) ∧ Below w.heap.size w w' := by
  obtain ⟨A, c, rfl, hc, hcm, hA, hrr⟩ := hr
  exact (more_any s A c xs w (by omega) hrr).mono fun e w' ⟨h1, h2⟩ => ⟨h1, by subst h2; exact Below.refl _ _⟩

set_option maxHeartbeats 1000000 in
theorem wakes_any (w : World) : Calls Try.prog 12 #[] w fun e w' => e = .returned (.bool true) ∧ Below w.heap.size w w' := by
  have kc := fun (w : World) (C : Array Value) (n c : Nat) => Lib.run_convert_bytes_const (P := Try.prog) w 22 5 C n c Try.underlying22 Try.underlying5
  go_enter Try.func12, Try.ntmps12
  go_wp2_with fail
  refine (put_any _ [97, 98] _ (by decide) (slB_lit _ [97, 98] _ _ (by decide))).mono ?_
  rintro e w1 ⟨v1, rfl, ho1, hb1⟩
  go_wp2_with fail
  refine (take_some _ [97, 98] _ (by decide) ho1.sl).mono ?_
  rintro e w2 ⟨v2, rfl, ho2, hb2⟩
  go_wp2_with fail
  refine (take_short _ [97, 98, 99] _ (by decide) (slB_lit _ [97, 98, 99] _ _ (by decide))).mono ?_
  rintro e w3 ⟨rfl, hb3⟩
  go_wp2_with fail
  refine (sumV _ [49, 50, 51, 52, 53, 54, 55, 56, 57] _ (by decide) (slB_lit _ [49, 50, 51, 52, 53, 54, 55, 56, 57] _ _ (by decide))).mono ?_
  generalize hs4 : crcMore 0 [49, 50, 51, 52, 53, 54, 55, 56, 57] = s4
  have hx4 : (c32 s4 == 3421780262) = true := by rw [← hs4]; decide +kernel
  clear hs4
  rintro e w4 ⟨rfl, hb4⟩
  go_wp2_with fail
  refine (sumV _ [49, 50, 51] _ (by decide) (slB_lit _ [49, 50, 51] _ _ (by decide))).mono ?_
  rintro e w5 ⟨rfl, hb5⟩
  go_wp2_with fail
  refine (moreV _ _ [52, 53, 54, 55, 56, 57] _ (by decide) (slB_lit _ [52, 53, 54, 55, 56, 57] _ _ (by decide))).mono ?_
  generalize hs4 : crcMore (crcMore 0 [49, 50, 51]) [52, 53, 54, 55, 56, 57] = s5
  have hx5 : (c32 s5 == 3421780262) = true := by rw [← hs4]; decide +kernel
  clear hs4
  rintro e w6 ⟨rfl, hb6⟩
  have e1 : Ext w w1 := (ext_alloc _ _).trans hb1
  have e3 : Ext w2 w3 := (ext_alloc _ _).trans hb3
  have e4 : Ext w3 w4 := (ext_alloc _ _).trans hb4
  have e5 : Ext w4 w5 := (ext_alloc _ _).trans hb5
  have e6 : Ext w5 w6 := (ext_alloc _ _).trans hb6
  have h26 : Ext w2 w6 := e3.trans (e4.trans (e5.trans e6))
  have kd := conv_sl (P := Try.prog) (dst := 9) Try.underlying22 Try.underlying5 Try.underlying9 (ho2.sl.below h26)
  have hx6 : Ext w w6 := e1.trans (Ext.trans hb2 h26)
  clear hb1 hb2 hb3 hb4 hb5 hb6 e1 e3 e4 e5 e6 h26 ho1 ho2
  go_wp2_with fail
  go_ret
  exact ⟨rfl, hx6⟩
end Go.Proofs.Ytmlndnfehcafgaa
