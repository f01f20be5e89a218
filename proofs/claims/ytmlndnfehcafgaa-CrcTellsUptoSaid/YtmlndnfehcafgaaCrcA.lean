/- The laws of chapter 14, walked. -/
import Derived.Test.YtmlndnfehcafgaaCrcV
set_option linter.unusedVariables false
set_option linter.unusedSimpArgs false
namespace Go.Proofs.Ytmlndnfehcafgaa
open Go.RowKit

theorem crcMore_append (s : UInt32) (xs ys : List UInt8) : crcMore (crcMore s xs) ys = crcMore s (xs ++ ys) := by
  unfold crcMore
  rw [UInt32.not_not, List.foldl_append]

set_option maxHeartbeats 1000000 in
theorem law_CrcSums (va : Value) (a : List UInt8) (vb : Value) (b : List UInt8) (w : World) (ha : SlB w va a) (hla : a.length ≤ 1048576) (hb : SlB w vb b) (hlb : b.length ≤ 1048576) :
    Calls Try.prog 3 #[va, vb] w fun e w' => e = .returned (.bool true) ∧ Below w.heap.size w w' := by
  go_enter Try.func3, Try.ntmps3
  go_wp2_with (at_builtin; go_loud (refine wpl_cpB rfl _ _ rfl rfl rfl ha (by omega) ?_))
  intro vx w1 hx b1
  replace ha := ha.below b1; replace hb := hb.below b1
  go_wp2_with (at_builtin; go_loud (refine wpl_cpB rfl _ _ rfl rfl rfl hb (by omega) ?_))
  intro vy w2 hy b2
  replace ha := ha.below b2; replace hb := hb.below b2; replace hx := hx.sl.below b2
  go_wp2_with (at_builtin; go_loud (refine wpl_cpB rfl _ _ rfl rfl rfl ha (by omega) ?_))
  intro vz w3 hz b3
  have hb2 := hb
  have ha2 := ha
  have hx2 := hx
  have hy2 := hy.sl
  replace ha := ha.below b3; replace hb := hb.below b3
  go_wp2_with (at_builtin; go_loud (refine wpl_apB (B := w2.heap.size) rfl _ _ rfl rfl hz rfl hb (by omega) b3.size ?_))
  intro vz w4 hz b4
  have k4 : ∀ (v : Value) (xs : List UInt8), SlB w2 v xs → SlB w4 v xs := fun v xs h => (h.below (Below.trans b3 b4))
  clear ha hb hx hy
  have ha := ha2.below (Below.trans b3 b4); have hb := hb2.below (Below.trans b3 b4); have hx := hx2.below (Below.trans b3 b4); have hy := hy2.below (Below.trans b3 b4); replace hz := hz.sl
  have e4 : Ext w w4 := Ext.trans b1 (Ext.trans b2 (Below.trans b3 b4))
  clear ha2 hb2 hx2 hy2 b1 b2 b3 b4
  go_wp2_with fail
  refine (sumV _ a _ (by omega) hx).mono ?_
  rintro e w5 ⟨rfl, b5⟩
  replace ha := ha.below b5; replace hb := hb.below b5; replace hx := hx.below b5; replace hy := hy.below b5; replace hz := hz.below b5
  go_wp2_with fail
  refine (refS_any _ a _ (by omega) ha).mono ?_
  rintro e w5' ⟨rfl, rfl⟩
  go_wp2_with fail
  refine (sumV _ a _ (by omega) hx).mono ?_
  rintro e w6 ⟨rfl, b6⟩
  replace ha := ha.below b6; replace hb := hb.below b6; replace hx := hx.below b6; replace hy := hy.below b6; replace hz := hz.below b6
  go_wp2_with fail
  refine (moreV _ _ b _ (by omega) hy).mono ?_
  rw [crcMore_append]
  rintro e w7 ⟨rfl, b7⟩
  replace ha := ha.below b7; replace hb := hb.below b7; replace hx := hx.below b7; replace hy := hy.below b7; replace hz := hz.below b7
  go_wp2_with fail
  refine (refS_any _ (a ++ b) _ (by simp; omega) hz).mono ?_
  rintro e w7' ⟨rfl, rfl⟩
  have k1 := conv_sl (P := Try.prog) (dst := 9) Try.underlying22 Try.underlying5 Try.underlying9 hx
  have k2 := conv_sl (P := Try.prog) (dst := 9) Try.underlying22 Try.underlying5 Try.underlying9 ha
  have k3 := conv_sl (P := Try.prog) (dst := 9) Try.underlying22 Try.underlying5 Try.underlying9 hy
  have k4 := conv_sl (P := Try.prog) (dst := 9) Try.underlying22 Try.underlying5 Try.underlying9 hb
  go_wp2_with fail
  refine (wakes_any _).mono ?_
  rintro e w8 ⟨rfl, b8⟩
  go_wp2_with fail
  go_ret
  exact ⟨rfl, Ext.trans e4 (Ext.trans b5 (Ext.trans b6 (Ext.trans b7 b8)))⟩

theorem crcTake_cases (xs : List UInt8) : (∃ ys, xs = crcPut ys) ∨ xs.length < 4 ∨ (4 ≤ xs.length ∧ crcPut (xs.take (xs.length - 4)) ≠ xs) := by
  by_cases h : xs.length < 4
  · exact .inr (.inl h)
  · by_cases h2 : crcPut (xs.take (xs.length - 4)) = xs
    · exact .inl ⟨_, h2.symm⟩
    · exact .inr (.inr ⟨by omega, h2⟩)
/-- What Take answers of bytes that are no frame. -/
theorem take_none (v : Value) (xs : List UInt8) (w : World) (hn : xs.length ≤ 1099511627776) (hno : xs.length < 4 ∨ (4 ≤ xs.length ∧ crcPut (xs.take (xs.length - 4)) ≠ xs)) (hr : SlB w v xs) :
    Calls Try.prog 14 #[v] w fun e w' => e = .returned (.tuple #[.slice none 0 0, .bool false]) ∧ Below w.heap.size w w' := by
  rcases hno with h | ⟨h1, h2⟩
  · exact take_short v xs w h hr
  · exact take_other v xs w hn h1 h2 hr

theorem sum_nil : crcMore 0 [] = 0 := by decide

set_option maxHeartbeats 1000000 in
theorem law_CrcKnown (w : World) :
    Calls Try.prog 8 #[] w fun e w' => e = .returned (.bool true) ∧ Below w.heap.size w w' := by
  go_enter Try.func8, Try.ntmps8
  go_wp2_with fail
  refine (take_short _ [] _ (by decide) (slB_nil _)).mono ?_
  rintro e w1 ⟨rfl, b1⟩
  go_wp2_with fail
  refine (put_any _ [] _ (by decide) (slB_nil _)).mono ?_
  rintro e w2 ⟨v2, rfl, h2, b2⟩
  go_wp2_with fail
  refine (take_some _ [] _ (by decide) h2.sl).mono ?_
  rintro e w3 ⟨v3, rfl, h3, b3⟩
  obtain ⟨A3, c3, rfl, _⟩ := h3.sl
  have e3 : ([] : List UInt8).length = 0 := rfl
  rw [e3] at h3 ⊢
  go_wp2_with fail
  refine (sumV _ [] _ (by decide) (slB_nil _)).mono ?_
  rintro e w4 ⟨rfl, b4⟩
  have q4 : (c32 (crcMore 0 []) == 0) = true := by decide
  go_wp2_with fail
  refine (moreV 5 _ [] _ (by decide) (slB_nil _)).mono ?_
  rintro e w5 ⟨rfl, b5⟩
  have q5 : (c32 (crcMore 5 []) == 5) = true := by decide
  go_wp2_with fail
  refine (sumV _ [0] _ (by decide) (slB_lit _ [0] _ _ (by decide))).mono ?_
  rintro e w6 ⟨rfl, b6⟩
  go_wp2_with fail
  refine (sumV _ [0, 0] _ (by decide) (slB_lit _ [0, 0] _ _ (by decide))).mono ?_
  rintro e w7 ⟨rfl, b7⟩
  have q7 : (c32 (crcMore 0 [0]) != c32 (crcMore 0 [0, 0])) = true := by decide +kernel
  go_wp2_with fail
  refine (wakes_any _).mono ?_
  rintro e w8 ⟨rfl, b8⟩
  go_wp2_with fail
  go_ret
  exact ⟨rfl, Ext.trans b1 (Ext.trans b2 (Ext.trans b3 (Ext.trans b4 (Ext.trans b5 (Ext.trans (ext_alloc _ _) (Ext.trans b6 (Ext.trans (ext_alloc _ _) (Ext.trans b7 b8))))))))⟩

set_option maxHeartbeats 1000000 in
theorem law_CrcBack (va : Value) (a : List UInt8) (vb : Value) (b : List UInt8) (w : World) (ha : SlB w va a) (hla : a.length ≤ 1048576) (hb : SlB w vb b) (hlb : b.length ≤ 1048576) :
    Calls Try.prog 6 #[va, vb] w fun e w' => e = .returned (.bool true) ∧ Below w.heap.size w w' := by
  go_enter Try.func6, Try.ntmps6
  go_wp2_with fail
  refine (put_any _ a _ (by omega) ha).mono ?_
  rintro e w1 ⟨v1, rfl, h1, b1⟩
  replace ha := ha.below b1; replace hb := hb.below b1
  go_wp2_with fail
  refine (take_some _ a _ (by omega) h1.sl).mono ?_
  rintro e w2 ⟨v2, rfl, h2, b2⟩
  replace ha := ha.below b2; replace hb := hb.below b2
  have k1 := conv_sl (P := Try.prog) (dst := 9) Try.underlying22 Try.underlying5 Try.underlying9 h2.sl
  have k2 := conv_sl (P := Try.prog) (dst := 9) Try.underlying22 Try.underlying5 Try.underlying9 ha
  have kb := conv_sl (P := Try.prog) (dst := 9) Try.underlying22 Try.underlying5 Try.underlying9 hb
  go_wp2_with fail
  rcases crcTake_cases b with ⟨ys, rfl⟩ | hno
  · rw [crcPut_length] at hlb
    refine (take_some _ ys _ (by omega) hb).mono ?_
    rintro e w3 ⟨v3, rfl, h3, b3⟩
    replace hb := hb.below b3
    have hcur : Below w.heap.size w w3 := Ext.trans b1 (Ext.trans b2 b3)
    have kb := fun (w' : World) (h : Ext w3 w') => conv_sl (P := Try.prog) (dst := 9) Try.underlying22 Try.underlying5 Try.underlying9 (hb.below h)
    have h3' := fun (w' : World) (h : Ext w3 w') => h3.sl.below h
    have e3 := Ext.refl w3
    clear ha k1 k2
    go_wp2_with fail
    have e3' := ext_drew w3
    refine wp_region_E (by kernel_rfl) ?_
    replace hcur := below_via hcur (ext_drew _)
    refine wpAnyE_take (i := 0) (v := ?_) (some 36) rfl rfl (by kernel_rfl) (by kernel_rfl) (by kernel_rfl) (fun _ _ _ h => h) ?_ ?_
    rotate_left 1
    · (refine Or.inl ⟨by rfl, ?_⟩; intro w' hw'; have hq := below_via hcur hw'; (try go_simp); (try rfl); done)
    try simp only [Act.put, List.setIfInBounds_toArray, List.set_cons_zero, List.set_cons_succ]
    refine wpAnyE_take (i := 3) (v := ?_) (some 39) rfl rfl (by kernel_rfl) (by kernel_rfl) (by kernel_rfl) (fun _ _ _ h => h) ?_ ?_
    rotate_left 1
    · (refine Or.inl ⟨by rfl, ?_⟩; intro w' hw'; have hq := below_via hcur hw'; (try go_simp); (try rfl); done)
    try simp only [Act.put, List.setIfInBounds_toArray, List.set_cons_zero, List.set_cons_succ]
    refine wpAnyE_take (i := 4) (v := ?_) (some 40) rfl rfl (by kernel_rfl) (by kernel_rfl) (by kernel_rfl) (fun _ _ _ h => h) ?_ ?_
    rotate_left 1
    · (refine Or.inl ⟨by rfl, ?_⟩; intro w' hw'; have hq := below_via hcur hw'; have hq3 := Ext.trans e3' hw'; (try go_simp); (try rfl); done)
    try simp only [Act.put, List.setIfInBounds_toArray, List.set_cons_zero, List.set_cons_succ]
    refine wpAnyE_one (i := 1) rfl (by kernel_rfl) (by rfl) (fun K hK => ?_)
    go_simp
    (with_reducible refine (put_any _ ys _ (by omega) (h3' _ e3')).mono ?_); rintro e w4 ⟨v4, rfl, h4, hb⟩; replace e3' := e3'.trans hb
    refine hK.out _ _ hb ?_
    replace hcur := below_via hcur hb; clear hK K
    try simp only [Act.put, List.setIfInBounds_toArray, List.set_cons_zero, List.set_cons_succ]
    have kd := fun (w' : World) (h : Ext w4 w') => conv_sl (P := Try.prog) (dst := 9) Try.underlying22 Try.underlying5 Try.underlying9 (h4.sl.below h)
    refine wpAnyE_take (i := 2) (v := ?_) (some 38) rfl rfl (by kernel_rfl) (by kernel_rfl) (by kernel_rfl) (fun _ _ _ h => h) ?_ ?_
    rotate_left 1
    · (refine Or.inl ⟨by rfl, ?_⟩; intro w' hw'; have hq := below_via hcur hw'; (try go_simp); (try rfl); done)
    try simp only [Act.put, List.setIfInBounds_toArray, List.set_cons_zero, List.set_cons_succ]
    refine wpAnyE_take (i := 5) (v := ?_) (some 41) rfl rfl (by kernel_rfl) (by kernel_rfl) (by kernel_rfl) (fun _ _ _ h => h) ?_ ?_
    rotate_left 1
    · (refine Or.inl ⟨by rfl, ?_⟩; intro w' hw'; have hq := below_via hcur hw'; (try go_simp); (try rfl); done)
    try simp only [Act.put, List.setIfInBounds_toArray, List.set_cons_zero, List.set_cons_succ]
    refine wpAnyE_take (i := 6) (v := ?_) (some 42) rfl rfl (by kernel_rfl) (by kernel_rfl) (by kernel_rfl) (fun _ _ _ h => h) ?_ ?_
    rotate_left 1
    · (refine Or.inl ⟨by rfl, ?_⟩; intro w' hw'; have hq := below_via hcur hw'; (try go_simp); (try rfl); done)
    try simp only [Act.put, List.setIfInBounds_toArray, List.set_cons_zero, List.set_cons_succ]
    refine wpAnyE_one (i := 7) rfl (by kernel_rfl) (by rfl) (fun K hK => ?_)
    go_simp
    (with_reducible refine (wakes_any _).mono ?_); rintro e w5 ⟨rfl, hb⟩; replace e3' := e3'.trans hb
    refine hK.out _ _ hb ?_
    replace hcur := below_via hcur hb; clear hK K
    try simp only [Act.put, List.setIfInBounds_toArray, List.set_cons_zero, List.set_cons_succ]
    refine wpAnyE_take (i := 8) (v := ?_) (some 44) rfl rfl (by kernel_rfl) (by kernel_rfl) (by kernel_rfl) (fun _ _ _ h => h) ?_ ?_
    rotate_left 1
    · (refine Or.inl ⟨by rfl, ?_⟩; intro w' hw'; have hq := below_via hcur hw'; (try go_simp); (try rfl); done)
    try simp only [Act.put, List.setIfInBounds_toArray, List.set_cons_zero, List.set_cons_succ]
    refine wpAnyE_take (i := 9) (v := ?_) (some 4) rfl rfl (by kernel_rfl) (by kernel_rfl) (by kernel_rfl) (fun _ _ _ h => h) ?_ ?_
    rotate_left 1
    · (refine Or.inl ⟨by rfl, ?_⟩; intro w' hw'; have hq := below_via hcur hw'; (try go_simp); (try rfl); done)
    try simp only [Act.put, List.setIfInBounds_toArray, List.set_cons_zero, List.set_cons_succ]
    refine wpAnyE_done (by kernel_rfl) ?_ _
    go_wp2_with fail
    go_ret
    exact ⟨rfl, hcur⟩
  · refine (take_none _ b _ (by omega) hno hb).mono ?_
    rintro e w3 ⟨rfl, b3⟩
    go_wp2_with fail
    refine (wakes_any _).mono ?_
    rintro e w4 ⟨rfl, b4⟩
    go_wp2_with fail
    go_ret
    exact ⟨rfl, Ext.trans b1 (Ext.trans b2 (Ext.trans b3 b4))⟩

attribute [local go_sem high] rs_l rs_lh rs_lhm rs_h rs_hm rs_all min2_int min_two
attribute [local go_sem 500] rs_any

set_option maxHeartbeats 1000000 in
theorem law_CrcParts (va : Value) (b : List UInt8) (vb : Value) (ps : List UInt8) (w : World) (hb : SlB w va b) (hlb : b.length ≤ 1048576) (hp : SlB w vb ps) (hlp : ps.length ≤ 1048576) :
    Calls Try.prog 7 #[va, vb] w fun e w' => e = .returned (.bool true) ∧ Below w.heap.size w w' := by
  have hb0 := hb
  have hp0 := hp
  obtain ⟨A, c, rfl, hc, hcm, hA, hrr⟩ := hb
  obtain ⟨A2, c2, rfl, hc2, hcm2, hA2, hrr2⟩ := hp
  go_enter Try.func7, Try.ntmps7
  go_wp2_with fail
  refine (sumV _ [] _ (by decide) (slB_nil _)).mono ?_
  rintro e w1 ⟨rfl, b1⟩
  go_wp2_with fail
  go_loopw [5, 6, 7] (fun n at_ i wr => ∃ k m : Nat, k ≤ b.length ∧ m ≤ ps.length ∧ at_ = .int .i64 k ∧ i = .int .i64 m ∧ n = .int .u32 (c32 (crcMore 0 (b.take k))) ∧ Below w.heap.size w wr) (fun _ _ i _ => ps.length - (intOf i).toNat)
  case atStart => exact ⟨0, 0, by omega, by omega, rfl, rfl, rfl, b1⟩
  case round =>
    obtain ⟨k, m, hk, hm, rfl, rfl, rfl, bw⟩ := hrel
    have kb : SlB wr (.slice A b.length c) b := hb0.below bw
    have fin : ∀ (w0 : World), SlB w0 (.slice A b.length c) b → SlB w0 (.slice (slA A k c 1) (b.length - k) (c - k)) (b.drop k) := fun w0 h => by
      have := slB_slice h k b.length hk (Nat.le_refl _)
      rwa [List.take_of_length_le (by simp)] at this
    by_cases h12 : m < ps.length ∧ k < b.length
    · obtain ⟨h1, h2⟩ := h12
      obtain ⟨ad, rfl, hcell0⟩ := RdB.cell (hrr2.below' bw) h1
      generalize hx : (ps.getD m 0).toNat = q at hcell0
      have hcell : wr.cell? (ad.add m) = some (.int .u8 (q : Int)) := by rw [← hx]; exact hcell0
      have hq : q < 256 := by rw [← hx]; exact (ps.getD m 0).toNat_lt
      clear hcell0 hx
      have key : ∀ n, n ≤ b.length - k → crcMore (crcMore 0 (b.take k)) ((b.drop k).take n) = crcMore 0 (b.take (k + n)) := fun n hn => by rw [crcMore_append, ← List.take_add]
      by_cases h3 : (b.length : Int) - k < q
      · have kb' := slB_slice kb k b.length hk (Nat.le_refl _)
        have hl : ((b.drop k).take (b.length - k)).length ≤ 1099511627776 := by simp; omega
        go_wp2_with fail
        (with_reducible refine (moreV _ _ _ _ hl kb').mono ?_)
        rw [key _ (Nat.le_refl _)]
        rintro e w2 ⟨rfl, b2⟩
        go_wp2_with fail
        go_roundw
        case rel => exact ⟨k + (b.length - k), m + 1, by omega, by omega, by go_num, by go_num, by rw [List.take_of_length_le (by omega)], Ext.trans bw b2⟩
        case measure => simp [intOf]; omega
      · have kb' := slB_slice kb k (k + q) (by omega) (by omega)
        rw [Nat.add_sub_cancel_left] at kb'
        have hl : ((b.drop k).take q).length ≤ 1099511627776 := by simp; omega
        go_wp2_with fail
        (with_reducible refine (moreV _ _ _ _ hl kb').mono ?_)
        rw [key _ (by omega)]
        rintro e w2 ⟨rfl, b2⟩
        go_wp2_with fail
        go_roundw
        case rel => exact ⟨k + q, m + 1, by omega, by omega, by go_num, by go_num, rfl, Ext.trans bw b2⟩
        case measure => simp [intOf]; omega
    · have hl : (b.drop k).length ≤ 1099511627776 := by simp; omega
      have key : crcMore (crcMore 0 (b.take k)) (b.drop k) = crcMore 0 b := by rw [crcMore_append, List.take_append_drop]
      by_cases h1 : m < ps.length
      · have h2 : ¬ k < b.length := fun h => h12 ⟨h1, h⟩
        clear h12
        go_wp2_with fail
        refine (moreV _ _ _ _ hl (fin _ kb)).mono ?_
        rw [key]
        rintro e w2 ⟨rfl, b2⟩
        go_wp2_with fail
        refine (sumV _ b _ (by omega) (kb.below b2)).mono ?_
        rintro e w3 ⟨rfl, b3⟩
        go_wp2_with fail
        refine (sumV _ [] _ (by decide) (slB_nil _)).mono ?_
        rintro e w4 ⟨rfl, b4⟩
        have q4 : (c32 (crcMore 0 []) == 0) = true := by decide
        go_wp2_with fail
        refine (wakes_any _).mono ?_
        rintro e w5 ⟨rfl, b5⟩
        go_wp2_with fail
        go_ret
        exact ⟨rfl, Ext.trans bw (Ext.trans b2 (Ext.trans b3 (Ext.trans b4 b5)))⟩
      · clear h12
        go_wp2_with fail
        refine (moreV _ _ _ _ hl (fin _ kb)).mono ?_
        rw [key]
        rintro e w2 ⟨rfl, b2⟩
        go_wp2_with fail
        refine (sumV _ b _ (by omega) (kb.below b2)).mono ?_
        rintro e w3 ⟨rfl, b3⟩
        go_wp2_with fail
        refine (sumV _ [] _ (by decide) (slB_nil _)).mono ?_
        rintro e w4 ⟨rfl, b4⟩
        have q4 : (c32 (crcMore 0 []) == 0) = true := by decide
        go_wp2_with fail
        refine (wakes_any _).mono ?_
        rintro e w5 ⟨rfl, b5⟩
        go_wp2_with fail
        go_ret
        exact ⟨rfl, Ext.trans bw (Ext.trans b2 (Ext.trans b3 (Ext.trans b4 b5)))⟩

set_option maxHeartbeats 1000000 in
theorem refTake_short (v : Value) (xs : List UInt8) (w : World) (hn : xs.length < 4) (hr : SlB w v xs) :
    Calls Try.prog 15 #[v] w fun e w' => e = .returned (.tuple #[.slice none 0 0, .bool false]) ∧ Below w.heap.size w w' := by
  obtain ⟨A, c, rfl, hc, hcm, hA, hrr⟩ := hr
  go_enter Try.func15, Try.ntmps15
  go_wp2
  go_ret2
  exact ⟨rfl, Below.refl _ _⟩

set_option maxHeartbeats 1000000 in
theorem refTake_some (v : Value) (xs : List UInt8) (w : World) (hn : xs.length ≤ 1099511627776) (hr : SlB w v (crcPut xs)) :
    Calls Try.prog 15 #[v] w fun e w' => ∃ v', e = .returned (.tuple #[v', .bool true]) ∧ OwB w.heap.size w' v' xs ∧ Below w.heap.size w w' := by
  have hlen : (crcPut xs).length = xs.length + 4 := crcPut_length xs
  have hr0 := hr
  obtain ⟨A, c, rfl, hc, hcm, hA, hrr⟩ := hr
  have hs1 : SlB w (.slice A xs.length c) xs := by
    have := slB_take hr0 xs.length (by omega)
    rwa [show (crcPut xs).take xs.length = xs by simp [crcPut]] at this
  rw [hlen] at hc hr0 ⊢
  clear hlen
  go_enter Try.func15, Try.ntmps15
  go_wp2_with (at_builtin; go_loud (refine wpl_cpB rfl _ _ rfl rfl rfl hs1 (by omega) ?_))
  intro v1 w1 h1 b1
  replace hr0 := hr0.below b1
  have hcur : Below w.heap.size w w1 := b1
  have kb := fun (w' : World) (h : Ext w1 w') => conv_sl (P := Try.prog) (dst := 9) Try.underlying22 Try.underlying5 Try.underlying9 (hr0.below h)
  have h1' := fun (w' : World) (h : Ext w1 w') => h1.sl.below h
  go_wp2_with fail
  have e1 := ext_drew w1
  refine wp_region_E (by kernel_rfl) ?_
  replace hcur := below_via hcur (ext_drew _)
  refine wpAnyE_take (i := 0) (v := ?_) (some 15) rfl rfl (by kernel_rfl) (by kernel_rfl) (by kernel_rfl) (fun _ _ _ h => h) ?_ ?_
  rotate_left 1
  · (refine Or.inl ⟨by rfl, ?_⟩; intro w' hw'; have hq := below_via hcur hw'; (try go_simp); (try rfl); done)
  try simp only [Act.put, List.setIfInBounds_toArray, List.set_cons_zero, List.set_cons_succ]
  refine wpAnyE_take (i := 3) (v := ?_) (some 18) rfl rfl (by kernel_rfl) (by kernel_rfl) (by kernel_rfl) (fun _ _ _ h => h) ?_ ?_
  rotate_left 1
  · (refine Or.inl ⟨by rfl, ?_⟩; intro w' hw'; have hq := below_via hcur hw'; (try go_simp); (try rfl); done)
  try simp only [Act.put, List.setIfInBounds_toArray, List.set_cons_zero, List.set_cons_succ]
  refine wpAnyE_take (i := 4) (v := ?_) (some 19) rfl rfl (by kernel_rfl) (by kernel_rfl) (by kernel_rfl) (fun _ _ _ h => h) ?_ ?_
  rotate_left 1
  · (refine Or.inl ⟨by rfl, ?_⟩; intro w' hw'; have hq := below_via hcur hw'; have hq1 := Ext.trans e1 hw'; (try go_simp); (try rfl); done)
  try simp only [Act.put, List.setIfInBounds_toArray, List.set_cons_zero, List.set_cons_succ]
  refine wpAnyE_one (i := 1) rfl (by kernel_rfl) (by rfl) (fun K hK => ?_)
  go_simp
  (with_reducible refine (refPut_any _ xs _ (by omega) (h1' _ e1)).mono ?_); rintro e w2 ⟨v2, rfl, h2, hb⟩; replace e1 := e1.trans hb
  refine hK.out _ _ hb ?_
  replace hcur := below_via hcur hb; clear hK K
  try simp only [Act.put, List.setIfInBounds_toArray, List.set_cons_zero, List.set_cons_succ]
  have kd := fun (w' : World) (h : Ext w2 w') => conv_sl (P := Try.prog) (dst := 9) Try.underlying22 Try.underlying5 Try.underlying9 (h2.sl.below h)
  refine wpAnyE_take (i := 2) (v := ?_) (some 17) rfl rfl (by kernel_rfl) (by kernel_rfl) (by kernel_rfl) (fun _ _ _ h => h) ?_ ?_
  rotate_left 1
  · (refine Or.inl ⟨by rfl, ?_⟩; intro w' hw'; have hq := below_via hcur hw'; (try go_simp); (try rfl); done)
  try simp only [Act.put, List.setIfInBounds_toArray, List.set_cons_zero, List.set_cons_succ]
  refine wpAnyE_take (i := 5) (v := ?_) (some 20) rfl rfl (by kernel_rfl) (by kernel_rfl) (by kernel_rfl) (fun _ _ _ h => h) ?_ ?_
  rotate_left 1
  · (refine Or.inl ⟨by rfl, ?_⟩; intro w' hw'; have hq := below_via hcur hw'; (try go_simp); (try rfl); done)
  try simp only [Act.put, List.setIfInBounds_toArray, List.set_cons_zero, List.set_cons_succ]
  refine wpAnyE_done (by kernel_rfl) ?_ _
  have ho := h1.below e1
  clear h1'
  go_wp2_with fail
  go_ret2
  exact ⟨_, rfl, ho, hcur⟩

set_option maxHeartbeats 1000000 in
theorem refTake_other (v : Value) (xs : List UInt8) (w : World) (hn : xs.length ≤ 1099511627776) (h4 : 4 ≤ xs.length) (hne : crcPut (xs.take (xs.length - 4)) ≠ xs) (hr : SlB w v xs) :
    Calls Try.prog 15 #[v] w fun e w' => e = .returned (.tuple #[.slice none 0 0, .bool false]) ∧ Below w.heap.size w w' := by
  have hr0 := hr
  obtain ⟨A, c, rfl, hc, hcm, hA, hrr⟩ := hr
  have hs1 : SlB w (.slice A (xs.length - 4) c) (xs.take (xs.length - 4)) := slB_take hr0 _ (by omega)
  have e0 : ((xs.length : Int) - 4).toNat = xs.length - 4 := by omega
  have hl : (xs.take (xs.length - 4)).length ≤ 1099511627776 := by rw [List.length_take]; omega
  have b2 : (xs.length : Int) - 4 ≤ c := by omega
  have b3 : 4 ≤ (xs.length : Int) := by omega
  have hneq : (crcPut (xs.take (xs.length - 4)) == xs) = false := beq_eq_false_iff_ne.2 hne
  go_enter Try.func15, Try.ntmps15
  go_wp2_with (at_builtin; go_loud (refine wpl_cpB rfl _ _ rfl rfl rfl hs1 (by omega) ?_))
  intro v1 w1 h1 b1
  replace hr0 := hr0.below b1
  have hcur : Below w.heap.size w w1 := b1
  have kb := fun (w' : World) (h : Ext w1 w') => conv_sl (P := Try.prog) (dst := 9) Try.underlying22 Try.underlying5 Try.underlying9 (hr0.below h)
  have h1' := fun (w' : World) (h : Ext w1 w') => h1.sl.below h
  go_wp2_with fail
  have e1 := ext_drew w1
  refine wp_region_E (by kernel_rfl) ?_
  replace hcur := below_via hcur (ext_drew _)
  refine wpAnyE_take (i := 0) (v := ?_) (some 15) rfl rfl (by kernel_rfl) (by kernel_rfl) (by kernel_rfl) (fun _ _ _ h => h) ?_ ?_
  rotate_left 1
  · (refine Or.inl ⟨by rfl, ?_⟩; intro w' hw'; have hq := below_via hcur hw'; (try go_simp); (try rfl); done)
  try simp only [Act.put, List.setIfInBounds_toArray, List.set_cons_zero, List.set_cons_succ]
  refine wpAnyE_take (i := 3) (v := ?_) (some 18) rfl rfl (by kernel_rfl) (by kernel_rfl) (by kernel_rfl) (fun _ _ _ h => h) ?_ ?_
  rotate_left 1
  · (refine Or.inl ⟨by rfl, ?_⟩; intro w' hw'; have hq := below_via hcur hw'; (try go_simp); (try rfl); done)
  try simp only [Act.put, List.setIfInBounds_toArray, List.set_cons_zero, List.set_cons_succ]
  refine wpAnyE_take (i := 4) (v := ?_) (some 19) rfl rfl (by kernel_rfl) (by kernel_rfl) (by kernel_rfl) (fun _ _ _ h => h) ?_ ?_
  rotate_left 1
  · (refine Or.inl ⟨by rfl, ?_⟩; intro w' hw'; have hq := below_via hcur hw'; have hq1 := Ext.trans e1 hw'; (try go_simp); (try rfl); done)
  try simp only [Act.put, List.setIfInBounds_toArray, List.set_cons_zero, List.set_cons_succ]
  refine wpAnyE_one (i := 1) rfl (by kernel_rfl) (by rfl) (fun K hK => ?_)
  go_simp
  (with_reducible refine (refPut_any _ (xs.take (xs.length - 4)) _ (by omega) (h1' _ e1)).mono ?_); rintro e w2 ⟨v2, rfl, h2, hb⟩; replace e1 := e1.trans hb
  refine hK.out _ _ hb ?_
  replace hcur := below_via hcur hb; clear hK K
  try simp only [Act.put, List.setIfInBounds_toArray, List.set_cons_zero, List.set_cons_succ]
  have kd := fun (w' : World) (h : Ext w2 w') => conv_sl (P := Try.prog) (dst := 9) Try.underlying22 Try.underlying5 Try.underlying9 (h2.sl.below h)
  refine wpAnyE_take (i := 2) (v := ?_) (some 17) rfl rfl (by kernel_rfl) (by kernel_rfl) (by kernel_rfl) (fun _ _ _ h => h) ?_ ?_
  rotate_left 1
  · (refine Or.inl ⟨by rfl, ?_⟩; intro w' hw'; have hq := below_via hcur hw'; (try go_simp); (try rfl); done)
  try simp only [Act.put, List.setIfInBounds_toArray, List.set_cons_zero, List.set_cons_succ]
  refine wpAnyE_take (i := 5) (v := ?_) (some 20) rfl rfl (by kernel_rfl) (by kernel_rfl) (by kernel_rfl) (fun _ _ _ h => h) ?_ ?_
  rotate_left 1
  · (refine Or.inl ⟨by rfl, ?_⟩; intro w' hw'; have hq := below_via hcur hw'; (try go_simp); (try rfl); done)
  try simp only [Act.put, List.setIfInBounds_toArray, List.set_cons_zero, List.set_cons_succ]
  refine wpAnyE_done (by kernel_rfl) ?_ _
  clear h1'
  go_wp2_with fail
  go_ret2
  exact ⟨rfl, hcur⟩

theorem refTake_none (v : Value) (xs : List UInt8) (w : World) (hn : xs.length ≤ 1099511627776) (hno : xs.length < 4 ∨ (4 ≤ xs.length ∧ crcPut (xs.take (xs.length - 4)) ≠ xs)) (hr : SlB w v xs) :
    Calls Try.prog 15 #[v] w fun e w' => e = .returned (.tuple #[.slice none 0 0, .bool false]) ∧ Below w.heap.size w w' := by
  rcases hno with h | ⟨h1, h2⟩
  · exact refTake_short v xs w h hr
  · exact refTake_other v xs w hn h1 h2 hr
end Go.Proofs.Ytmlndnfehcafgaa
