/- The laws of chapter 14, walked. -/
import Derived.Test.YtmlndnfehcafgaaCrcV
namespace Go.Proofs.Ytmlndnfehcafgaa
open Go.RowKit

theorem crcMore_append (s : UInt32) (xs ys : List UInt8) : crcMore (crcMore s xs) ys = crcMore s (xs ++ ys) := by
  unfold crcMore
  rw [UInt32.not_not, List.foldl_append]

set_option maxHeartbeats 1000000 in
theorem law_CrcSums (va : Value) (a : List UInt8) (vb : Value) (b : List UInt8) (w : World) (ha : SlB w va a) (hla : a.length ≤ 1048576) (hb : SlB w vb b) (hlb : b.length ≤ 1048576) :
    Calls Try.prog 3 #[va, vb] w fun e w' => e = .returned (.bool true) ∧ Below w.heap.size w w' := by
  go_enter Try.func3, Try.ntmps3
  go_wp2_with (at_builtin; go_loud (refine wpl_cpB rfl _ _ rfl rfl rfl ha (by omega) ?_))
  intro vx w1 hx b1
  replace ha := ha.below b1; replace hb := hb.below b1
  go_wp2_with (at_builtin; go_loud (refine wpl_cpB rfl _ _ rfl rfl rfl hb (by omega) ?_))
  intro vy w2 hy b2
  replace ha := ha.below b2; replace hb := hb.below b2; replace hx := hx.sl.below b2
  go_wp2_with (at_builtin; go_loud (refine wpl_cpB rfl _ _ rfl rfl rfl ha (by omega) ?_))
  intro vz w3 hz b3
  have hb2 := hb
  have ha2 := ha
  have hx2 := hx
  have hy2 := hy.sl
  replace ha := ha.below b3; replace hb := hb.below b3
  go_wp2_with (at_builtin; go_loud (refine wpl_apB (B := w2.heap.size) rfl _ _ rfl rfl hz rfl hb (by omega) b3.size ?_))
  intro vz w4 hz b4
  have k4 : ∀ (v : Value) (xs : List UInt8), SlB w2 v xs → SlB w4 v xs := fun v xs h => (h.below (Below.trans b3 b4))
  clear ha hb hx hy
  have ha := ha2.below (Below.trans b3 b4); have hb := hb2.below (Below.trans b3 b4); have hx := hx2.below (Below.trans b3 b4); have hy := hy2.below (Below.trans b3 b4); replace hz := hz.sl
  have e4 : Ext w w4 := Ext.trans b1 (Ext.trans b2 (Below.trans b3 b4))
  clear ha2 hb2 hx2 hy2 b1 b2 b3 b4
  go_wp2_with fail
  refine (sumV _ a _ (by omega) hx).mono ?_
  rintro e w5 ⟨rfl, b5⟩
  replace ha := ha.below b5; replace hb := hb.below b5; replace hx := hx.below b5; replace hy := hy.below b5; replace hz := hz.below b5
  go_wp2_with fail
  refine (refS_any _ a _ (by omega) ha).mono ?_
  rintro e w5' ⟨rfl, rfl⟩
  go_wp2_with fail
  refine (sumV _ a _ (by omega) hx).mono ?_
  rintro e w6 ⟨rfl, b6⟩
  replace ha := ha.below b6; replace hb := hb.below b6; replace hx := hx.below b6; replace hy := hy.below b6; replace hz := hz.below b6
  go_wp2_with fail
  refine (moreV _ _ b _ (by omega) hy).mono ?_
  rw [crcMore_append]
  rintro e w7 ⟨rfl, b7⟩
  replace ha := ha.below b7; replace hb := hb.below b7; replace hx := hx.below b7; replace hy := hy.below b7; replace hz := hz.below b7
  go_wp2_with fail
  refine (refS_any _ (a ++ b) _ (by simp; omega) hz).mono ?_
  rintro e w7' ⟨rfl, rfl⟩
  have k1 := conv_sl (P := Try.prog) (dst := 9) Try.underlying22 Try.underlying5 Try.underlying9 hx
  have k2 := conv_sl (P := Try.prog) (dst := 9) Try.underlying22 Try.underlying5 Try.underlying9 ha
  have k3 := conv_sl (P := Try.prog) (dst := 9) Try.underlying22 Try.underlying5 Try.underlying9 hy
  have k4 := conv_sl (P := Try.prog) (dst := 9) Try.underlying22 Try.underlying5 Try.underlying9 hb
  go_wp2_with fail
  refine (wakes_any _).mono ?_
  rintro e w8 ⟨rfl, b8⟩
  go_wp2_with fail
  go_ret
  exact ⟨rfl, Ext.trans e4 (Ext.trans b5 (Ext.trans b6 (Ext.trans b7 b8)))⟩
end Go.Proofs.Ytmlndnfehcafgaa
