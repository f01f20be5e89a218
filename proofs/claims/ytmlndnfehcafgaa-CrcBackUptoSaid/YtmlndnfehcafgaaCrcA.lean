/- The laws of chapter 14, walked. -/
import Derived.Test.YtmlndnfehcafgaaCrcV
set_option linter.unusedVariables false
set_option linter.unusedSimpArgs false
namespace Go.Proofs.Ytmlndnfehcafgaa
open Go.RowKit

theorem crcMore_append (s : UInt32) (xs ys : List UInt8) : crcMore (crcMore s xs) ys = crcMore s (xs ++ ys) := by
  unfold crcMore
  rw [UInt32.not_not, List.foldl_append]

set_option maxHeartbeats 1000000 in
theorem law_CrcSums (va : Value) (a : List UInt8) (vb : Value) (b : List UInt8) (w : World) (ha : SlB w va a) (hla : a.length ≤ 1048576) (hb : SlB w vb b) (hlb : b.length ≤ 1048576) :
    Calls Try.prog 3 #[va, vb] w fun e w' => e = .returned (.bool true) ∧ Below w.heap.size w w' := by
  go_enter Try.func3, Try.ntmps3
  go_wp2_with (at_builtin; go_loud (refine wpl_cpB rfl _ _ rfl rfl rfl ha (by omega) ?_))
  intro vx w1 hx b1
  replace ha := ha.below b1; replace hb := hb.below b1
  go_wp2_with (at_builtin; go_loud (refine wpl_cpB rfl _ _ rfl rfl rfl hb (by omega) ?_))
  intro vy w2 hy b2
  replace ha := ha.below b2; replace hb := hb.below b2; replace hx := hx.sl.below b2
  go_wp2_with (at_builtin; go_loud (refine wpl_cpB rfl _ _ rfl rfl rfl ha (by omega) ?_))
  intro vz w3 hz b3
  have hb2 := hb
  have ha2 := ha
  have hx2 := hx
  have hy2 := hy.sl
  replace ha := ha.below b3; replace hb := hb.below b3
  go_wp2_with (at_builtin; go_loud (refine wpl_apB (B := w2.heap.size) rfl _ _ rfl rfl hz rfl hb (by omega) b3.size ?_))
  intro vz w4 hz b4
  have k4 : ∀ (v : Value) (xs : List UInt8), SlB w2 v xs → SlB w4 v xs := fun v xs h => (h.below (Below.trans b3 b4))
  clear ha hb hx hy
  have ha := ha2.below (Below.trans b3 b4); have hb := hb2.below (Below.trans b3 b4); have hx := hx2.below (Below.trans b3 b4); have hy := hy2.below (Below.trans b3 b4); replace hz := hz.sl
  have e4 : Ext w w4 := Ext.trans b1 (Ext.trans b2 (Below.trans b3 b4))
  clear ha2 hb2 hx2 hy2 b1 b2 b3 b4
  go_wp2_with fail
  refine (sumV _ a _ (by omega) hx).mono ?_
  rintro e w5 ⟨rfl, b5⟩
  replace ha := ha.below b5; replace hb := hb.below b5; replace hx := hx.below b5; replace hy := hy.below b5; replace hz := hz.below b5
  go_wp2_with fail
  refine (refS_any _ a _ (by omega) ha).mono ?_
  rintro e w5' ⟨rfl, rfl⟩
  go_wp2_with fail
  refine (sumV _ a _ (by omega) hx).mono ?_
  rintro e w6 ⟨rfl, b6⟩
  replace ha := ha.below b6; replace hb := hb.below b6; replace hx := hx.below b6; replace hy := hy.below b6; replace hz := hz.below b6
  go_wp2_with fail
  refine (moreV _ _ b _ (by omega) hy).mono ?_
  rw [crcMore_append]
  rintro e w7 ⟨rfl, b7⟩
  replace ha := ha.below b7; replace hb := hb.below b7; replace hx := hx.below b7; replace hy := hy.below b7; replace hz := hz.below b7
  go_wp2_with fail
  refine (refS_any _ (a ++ b) _ (by simp; omega) hz).mono ?_
  rintro e w7' ⟨rfl, rfl⟩
  have k1 := conv_sl (P := Try.prog) (dst := 9) Try.underlying22 Try.underlying5 Try.underlying9 hx
  have k2 := conv_sl (P := Try.prog) (dst := 9) Try.underlying22 Try.underlying5 Try.underlying9 ha
  have k3 := conv_sl (P := Try.prog) (dst := 9) Try.underlying22 Try.underlying5 Try.underlying9 hy
  have k4 := conv_sl (P := Try.prog) (dst := 9) Try.underlying22 Try.underlying5 Try.underlying9 hb
  go_wp2_with fail
  refine (wakes_any _).mono ?_
  rintro e w8 ⟨rfl, b8⟩
  go_wp2_with fail
  go_ret
  exact ⟨rfl, Ext.trans e4 (Ext.trans b5 (Ext.trans b6 (Ext.trans b7 b8)))⟩

theorem crcTake_cases (xs : List UInt8) : (∃ ys, xs = crcPut ys) ∨ xs.length < 4 ∨ (4 ≤ xs.length ∧ crcPut (xs.take (xs.length - 4)) ≠ xs) := by
  by_cases h : xs.length < 4
  · exact .inr (.inl h)
  · by_cases h2 : crcPut (xs.take (xs.length - 4)) = xs
    · exact .inl ⟨_, h2.symm⟩
    · exact .inr (.inr ⟨by omega, h2⟩)
/-- What Take answers of bytes that are no frame. -/
theorem take_none (v : Value) (xs : List UInt8) (w : World) (hn : xs.length ≤ 1099511627776) (hno : xs.length < 4 ∨ (4 ≤ xs.length ∧ crcPut (xs.take (xs.length - 4)) ≠ xs)) (hr : SlB w v xs) :
    Calls Try.prog 14 #[v] w fun e w' => e = .returned (.tuple #[.slice none 0 0, .bool false]) ∧ Below w.heap.size w w' := by
  rcases hno with h | ⟨h1, h2⟩
  · exact take_short v xs w h hr
  · exact take_other v xs w hn h1 h2 hr

theorem sum_nil : crcMore 0 [] = 0 := by decide

set_option maxHeartbeats 1000000 in
theorem law_CrcKnown (w : World) :
    Calls Try.prog 8 #[] w fun e w' => e = .returned (.bool true) ∧ Below w.heap.size w w' := by
  go_enter Try.func8, Try.ntmps8
  go_wp2_with fail
  refine (take_short _ [] _ (by decide) (slB_nil _)).mono ?_
  rintro e w1 ⟨rfl, b1⟩
  go_wp2_with fail
  refine (put_any _ [] _ (by decide) (slB_nil _)).mono ?_
  rintro e w2 ⟨v2, rfl, h2, b2⟩
  go_wp2_with fail
  refine (take_some _ [] _ (by decide) h2.sl).mono ?_
  rintro e w3 ⟨v3, rfl, h3, b3⟩
  obtain ⟨A3, c3, rfl, _⟩ := h3.sl
  have e3 : ([] : List UInt8).length = 0 := rfl
  rw [e3] at h3 ⊢
  go_wp2_with fail
  refine (sumV _ [] _ (by decide) (slB_nil _)).mono ?_
  rintro e w4 ⟨rfl, b4⟩
  have q4 : (c32 (crcMore 0 []) == 0) = true := by decide
  go_wp2_with fail
  refine (moreV 5 _ [] _ (by decide) (slB_nil _)).mono ?_
  rintro e w5 ⟨rfl, b5⟩
  have q5 : (c32 (crcMore 5 []) == 5) = true := by decide
  go_wp2_with fail
  refine (sumV _ [0] _ (by decide) (slB_lit _ [0] _ _ (by decide))).mono ?_
  rintro e w6 ⟨rfl, b6⟩
  go_wp2_with fail
  refine (sumV _ [0, 0] _ (by decide) (slB_lit _ [0, 0] _ _ (by decide))).mono ?_
  rintro e w7 ⟨rfl, b7⟩
  have q7 : (c32 (crcMore 0 [0]) != c32 (crcMore 0 [0, 0])) = true := by decide +kernel
  go_wp2_with fail
  refine (wakes_any _).mono ?_
  rintro e w8 ⟨rfl, b8⟩
  go_wp2_with fail
  go_ret
  exact ⟨rfl, Ext.trans b1 (Ext.trans b2 (Ext.trans b3 (Ext.trans b4 (Ext.trans b5 (Ext.trans (ext_alloc _ _) (Ext.trans b6 (Ext.trans (ext_alloc _ _) (Ext.trans b7 b8))))))))⟩

set_option maxHeartbeats 1000000 in
theorem law_CrcBack (va : Value) (a : List UInt8) (vb : Value) (b : List UInt8) (w : World) (ha : SlB w va a) (hla : a.length ≤ 1048576) (hb : SlB w vb b) (hlb : b.length ≤ 1048576) :
    Calls Try.prog 6 #[va, vb] w fun e w' => e = .returned (.bool true) ∧ Below w.heap.size w w' := by
  go_enter Try.func6, Try.ntmps6
  go_wp2_with fail
  refine (put_any _ a _ (by omega) ha).mono ?_
  rintro e w1 ⟨v1, rfl, h1, b1⟩
  replace ha := ha.below b1; replace hb := hb.below b1
  go_wp2_with fail
  refine (take_some _ a _ (by omega) h1.sl).mono ?_
  rintro e w2 ⟨v2, rfl, h2, b2⟩
  replace ha := ha.below b2; replace hb := hb.below b2
  have k1 := conv_sl (P := Try.prog) (dst := 9) Try.underlying22 Try.underlying5 Try.underlying9 h2.sl
  have k2 := conv_sl (P := Try.prog) (dst := 9) Try.underlying22 Try.underlying5 Try.underlying9 ha
  have kb := conv_sl (P := Try.prog) (dst := 9) Try.underlying22 Try.underlying5 Try.underlying9 hb
  go_wp2_with fail
  rcases crcTake_cases b with ⟨ys, rfl⟩ | hno
  · rw [crcPut_length] at hlb
    refine (take_some _ ys _ (by omega) hb).mono ?_
    rintro e w3 ⟨v3, rfl, h3, b3⟩
    replace hb := hb.below b3
    have hcur : Below w.heap.size w w3 := Ext.trans b1 (Ext.trans b2 b3)
    have kb := fun (w' : World) (h : Ext w3 w') => conv_sl (P := Try.prog) (dst := 9) Try.underlying22 Try.underlying5 Try.underlying9 (hb.below h)
    have h3' := fun (w' : World) (h : Ext w3 w') => h3.sl.below h
    have e3 := Ext.refl w3
    clear ha k1 k2
    go_wp2_with fail
    have e3' := ext_drew w3
    refine wp_region_E (by kernel_rfl) ?_
    replace hcur := below_via hcur (ext_drew _)
    refine wpAnyE_take (i := 0) (v := ?_) (some 36) rfl rfl (by kernel_rfl) (by kernel_rfl) (by kernel_rfl) (fun _ _ _ h => h) ?_ ?_
    rotate_left 1
    · (refine Or.inl ⟨by rfl, ?_⟩; intro w' hw'; have hq := below_via hcur hw'; (try go_simp); (try rfl); done)
    try simp only [Act.put, List.setIfInBounds_toArray, List.set_cons_zero, List.set_cons_succ]
    refine wpAnyE_take (i := 3) (v := ?_) (some 39) rfl rfl (by kernel_rfl) (by kernel_rfl) (by kernel_rfl) (fun _ _ _ h => h) ?_ ?_
    rotate_left 1
    · (refine Or.inl ⟨by rfl, ?_⟩; intro w' hw'; have hq := below_via hcur hw'; (try go_simp); (try rfl); done)
    try simp only [Act.put, List.setIfInBounds_toArray, List.set_cons_zero, List.set_cons_succ]
    refine wpAnyE_take (i := 4) (v := ?_) (some 40) rfl rfl (by kernel_rfl) (by kernel_rfl) (by kernel_rfl) (fun _ _ _ h => h) ?_ ?_
    rotate_left 1
    · (refine Or.inl ⟨by rfl, ?_⟩; intro w' hw'; have hq := below_via hcur hw'; have hq3 := Ext.trans e3' hw'; (try go_simp); (try rfl); done)
    try simp only [Act.put, List.setIfInBounds_toArray, List.set_cons_zero, List.set_cons_succ]
    refine wpAnyE_one (i := 1) rfl (by kernel_rfl) (by rfl) (fun K hK => ?_)
    go_simp
    (with_reducible refine (put_any _ ys _ (by omega) (h3' _ e3')).mono ?_); rintro e w4 ⟨v4, rfl, h4, hb⟩; replace e3' := e3'.trans hb
    refine hK.out _ _ hb ?_
    replace hcur := below_via hcur hb; clear hK K
    try simp only [Act.put, List.setIfInBounds_toArray, List.set_cons_zero, List.set_cons_succ]
    have kd := fun (w' : World) (h : Ext w4 w') => conv_sl (P := Try.prog) (dst := 9) Try.underlying22 Try.underlying5 Try.underlying9 (h4.sl.below h)
    refine wpAnyE_take (i := 2) (v := ?_) (some 38) rfl rfl (by kernel_rfl) (by kernel_rfl) (by kernel_rfl) (fun _ _ _ h => h) ?_ ?_
    rotate_left 1
    · (refine Or.inl ⟨by rfl, ?_⟩; intro w' hw'; have hq := below_via hcur hw'; (try go_simp); (try rfl); done)
    try simp only [Act.put, List.setIfInBounds_toArray, List.set_cons_zero, List.set_cons_succ]
    refine wpAnyE_take (i := 5) (v := ?_) (some 41) rfl rfl (by kernel_rfl) (by kernel_rfl) (by kernel_rfl) (fun _ _ _ h => h) ?_ ?_
    rotate_left 1
    · (refine Or.inl ⟨by rfl, ?_⟩; intro w' hw'; have hq := below_via hcur hw'; (try go_simp); (try rfl); done)
    try simp only [Act.put, List.setIfInBounds_toArray, List.set_cons_zero, List.set_cons_succ]
    refine wpAnyE_take (i := 6) (v := ?_) (some 42) rfl rfl (by kernel_rfl) (by kernel_rfl) (by kernel_rfl) (fun _ _ _ h => h) ?_ ?_
    rotate_left 1
    · (refine Or.inl ⟨by rfl, ?_⟩; intro w' hw'; have hq := below_via hcur hw'; (try go_simp); (try rfl); done)
    try simp only [Act.put, List.setIfInBounds_toArray, List.set_cons_zero, List.set_cons_succ]
    refine wpAnyE_one (i := 7) rfl (by kernel_rfl) (by rfl) (fun K hK => ?_)
    go_simp
    (with_reducible refine (wakes_any _).mono ?_); rintro e w5 ⟨rfl, hb⟩; replace e3' := e3'.trans hb
    refine hK.out _ _ hb ?_
    replace hcur := below_via hcur hb; clear hK K
    try simp only [Act.put, List.setIfInBounds_toArray, List.set_cons_zero, List.set_cons_succ]
    refine wpAnyE_take (i := 8) (v := ?_) (some 44) rfl rfl (by kernel_rfl) (by kernel_rfl) (by kernel_rfl) (fun _ _ _ h => h) ?_ ?_
    rotate_left 1
    · (refine Or.inl ⟨by rfl, ?_⟩; intro w' hw'; have hq := below_via hcur hw'; (try go_simp); (try rfl); done)
    try simp only [Act.put, List.setIfInBounds_toArray, List.set_cons_zero, List.set_cons_succ]
    refine wpAnyE_take (i := 9) (v := ?_) (some 4) rfl rfl (by kernel_rfl) (by kernel_rfl) (by kernel_rfl) (fun _ _ _ h => h) ?_ ?_
    rotate_left 1
    · (refine Or.inl ⟨by rfl, ?_⟩; intro w' hw'; have hq := below_via hcur hw'; (try go_simp); (try rfl); done)
    try simp only [Act.put, List.setIfInBounds_toArray, List.set_cons_zero, List.set_cons_succ]
    refine wpAnyE_done (by kernel_rfl) ?_ _
    go_wp2_with fail
    go_ret
    exact ⟨rfl, hcur⟩
  · refine (take_none _ b _ (by omega) hno hb).mono ?_
    rintro e w3 ⟨rfl, b3⟩
    go_wp2_with fail
    refine (wakes_any _).mono ?_
    rintro e w4 ⟨rfl, b4⟩
    go_wp2_with fail
    go_ret
    exact ⟨rfl, Ext.trans b1 (Ext.trans b2 (Ext.trans b3 b4))⟩
end Go.Proofs.Ytmlndnfehcafgaa
