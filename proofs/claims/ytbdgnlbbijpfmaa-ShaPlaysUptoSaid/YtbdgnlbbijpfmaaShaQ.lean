/- The law of chapter 2 on parts, walked. -/
import Derived.Test.YtbdgnlbbijpfmaaShaV
import Derived.Test.YtbdgnlbbijpfmaaShaE
set_option linter.unusedVariables false
set_option linter.unusedSimpArgs false
namespace Go.Proofs.Ytbdgnlbbijpfmaa
open Go.RowKit
attribute [local go_sem high] guard_dg sha_length unhexL_length hexL_length zer_length
attribute [local go_sem high] rs_l rs_lh rs_lhm rs_h rs_hm rs_all min_two

theorem min2_nat (q m n : Nat) (h : n = min q m) (v : Int) (hv : v = m) : Builtin.min2 (.int .i64 (q : Int)) (.int .i64 v) = pure (.int .i64 (n : Int)) := by
  subst h hv
  simp only [Builtin.min2]
  by_cases h : m < q
  · rw [if_pos (by omega), Nat.min_eq_right (by omega)]
  · rw [if_neg (by omega), Nat.min_eq_left (by omega)]
theorem below_write {n : Nat} {w0 w w' : World} {g : Nat} (h : Below n w0 w) (hg : w.grownBy w' (some g)) (hgn : n ≤ g) (hn : n ≤ w.heap.size) : Below n w0 w' := below_grown_at h hg hn hgn

set_option maxHeartbeats 4000000 in
theorem law_ShaParts (va : Value) (b : List UInt8) (vb : Value) (ps : List UInt8) (w : World) (hb : SlB w va b) (hlb : b.length ≤ 1048576) (hp : SlB w vb ps) (hlp : ps.length ≤ 1048576) :
    Calls Try.prog 7 #[va, vb] w fun e w' => e = .returned (.bool true) ∧ Below w.heap.size w w' := by
  have hb0 := hb
  have hp0 := hp
  obtain ⟨A, c, rfl, hc, hcm, hA, hrr⟩ := hb
  obtain ⟨A2, c2, rfl, hc2, hcm2, hA2, hrr2⟩ := hp
  go_enter Try.func7, Try.ntmps7
  go_wp2_with fail
  refine (new_any _).mono ?_
  rintro e w1 ⟨x, rfl, hx, hs1, b1⟩
  go_wp2_with fail
  refine (wakes_any _).mono ?_
  rintro e w2 ⟨rfl, b2⟩
  have hs2 := hs1.below b2
  have bw2 := Ext.trans b1 b2
  clear hs1 b1 b2
  go_wp2_with fail
  go_loopw [6, 7] (fun at_ i wr => ∃ k m : Nat, k ≤ b.length ∧ m ≤ ps.length ∧ at_ = .int .i64 k ∧ i = .int .i64 m ∧ St wr x (b.take k) ∧ Below w.heap.size w wr) (fun _ i _ => ps.length - (intOf i).toNat)
  case atStart => exact ⟨0, 0, by omega, by omega, rfl, rfl, hs2, bw2⟩
  case round =>
    clear hs2 bw2
    obtain ⟨k, m, hk, hm, rfl, rfl, hs, bw⟩ := hrel
    have kb : SlB wr (.slice A b.length c) b := hb0.below bw
    have zx := hs.lt
    have zw := bw.size
    by_cases h12 : m < ps.length ∧ k < b.length
    · obtain ⟨h1, h2⟩ := h12
      obtain ⟨ad, rfl, hcell0⟩ := RdB.cell (hrr2.below' bw) h1
      generalize hq0 : (ps.getD m 0).toNat = q at hcell0
      have hcell : wr.cell? (ad.add m) = some (.int .u8 (q : Int)) := by rw [← hq0]; exact hcell0
      have hq : q < 256 := by rw [← hq0]; exact (ps.getD m 0).toNat_lt
      clear hcell0 hq0
      obtain ⟨n, hn⟩ : ∃ n, n = min q (b.length - k) := ⟨_, rfl⟩
      have hmin := min2_nat q (b.length - k) n hn ((b.length : Int) - k) (by omega)
      have hnk : k + n ≤ b.length := by omega
      have kb' := slB_slice kb k (k + n) (by omega) hnk
      have ka := slB_slice hb0 k (k + n) (by omega) hnk
      rw [Nat.add_sub_cancel_left] at kb' ka
      have hap := fun hne => apart_lt ka hne hx
      have g1 : (k : Int) + n ≤ c := by omega
      have g2 : (k : Int) ≤ (k : Int) + n := by omega
      have w0 : IntKind.i64.wrap ((k : Int) + n) = (k : Int) + n := by rw [IntKind.wrap_i64]; omega
      have w1 : IntKind.i64.wrap ((b.length : Int) - k) = (b.length : Int) - k := by rw [IntKind.wrap_i64]; omega
      have i1 : ((k : Int) + n).toNat = k + n := by omega
      have hl1 : (b.take k).length = k := by rw [List.length_take]; omega
      have hl2 : ((b.drop k).take n).length = n := by rw [List.length_take, List.length_drop]; omega
      clear hn
      go_wp2_with fail
      refine (write_any x (b.take k) ((b.drop k).take n) _ _ hs kb' hap (by omega)).mono ?_
      rw [← List.take_add]
      rintro e w3 ⟨rfl, hs3, g3⟩
      have bw3 := below_grown_at bw g3 zw hx
      have z3 := bw3.size
      clear hs g3 kb kb' ka hap bw
      go_wp2_with fail
      refine (copy_any x _ _ hs3).mono ?_
      rintro e w4 ⟨x', rfl, hx', hs4, b4⟩
      have hs4x := hs3.below b4
      have hs3lt := hs3.lt
      have bw4 := Ext.trans bw3 b4
      have kb4 : SlB w4 (.slice A b.length c) b := hb0.below bw4
      have kt4 := slB_slice kb4 0 (k + n) (by omega) hnk
      rw [List.drop_zero, Nat.sub_zero, slA_zero, Nat.sub_zero] at kt4
      have kp4 : SlB w4 (.slice (some ad) ps.length c2) ps := hp0.below bw4
      have hl3 : (b.take (k + n)).length ≤ 1048576 := by rw [List.length_take]; omega
      have hxx : w.heap.size ≤ x' := by omega
      have hap2 := fun hne => apart_lt hp0 hne hxx
      clear hs3 b4 bw3 hp0
      go_wp2_with fail
      have qn := neq_dg_self (sha (b.take (k + n))) (sha_length _)
      have e0 := Ext.refl w4
      have f1 := fun w' (h : Ext w4 w') => hs4x.below h
      have f2 := fun w' (h : Ext w4 w') => kt4.below h
      have f3 := fun w' (h : Ext w4 w') => hs4.below h
      have f4 := fun w' (h : Ext w4 w') => kp4.below h
      have hcur : Below w.heap.size w w4 := bw4
      refine wp_region_E (by kernel_rfl) ?_
      replace hcur := below_via hcur (ext_drew _)
      replace e0 := Ext.trans e0 (ext_drew _)
      refine wpAnyE_take (i := 0) (v := ?_) (some 52) rfl rfl (by kernel_rfl) (by kernel_rfl) (by kernel_rfl) (fun _ _ _ h => h) ?_ ?_
      rotate_left 1
      · (refine Or.inl ⟨by rfl, ?_⟩; intro w' hw'; have hq := below_via hcur hw'; have hq_e0 := Ext.trans e0 hw'; (try go_simp); (try rfl); done)
      try simp only [Act.put, List.setIfInBounds_toArray, List.set_cons_zero, List.set_cons_succ]
      refine wpAnyE_take (i := 1) (v := ?_) (some 53) rfl rfl (by kernel_rfl) (by kernel_rfl) (by kernel_rfl) (fun _ _ _ h => h) ?_ ?_
      rotate_left 1
      · (refine Or.inl ⟨by rfl, ?_⟩; intro w' hw'; have hq := below_via hcur hw'; have hq_e0 := Ext.trans e0 hw'; (try go_simp); (try rfl); done)
      try simp only [Act.put, List.setIfInBounds_toArray, List.set_cons_zero, List.set_cons_succ]
      refine wpAnyE_take (i := 2) (v := ?_) (some 54) rfl rfl (by kernel_rfl) (by kernel_rfl) (by kernel_rfl) (fun _ _ _ h => h) ?_ ?_
      rotate_left 1
      · (refine Or.inl ⟨by rfl, ?_⟩; intro w' hw'; have hq := below_via hcur hw'; have hq_e0 := Ext.trans e0 hw'; (try go_simp); (try rfl); done)
      try simp only [Act.put, List.setIfInBounds_toArray, List.set_cons_zero, List.set_cons_succ]
      refine wpAnyE_take (i := 3) (v := ?_) (some 55) rfl rfl (by kernel_rfl) (by kernel_rfl) (by kernel_rfl) (fun _ _ _ h => h) ?_ ?_
      rotate_left 1
      · (refine Or.inl ⟨by rfl, ?_⟩; intro w' hw'; have hq := below_via hcur hw'; have hq_e0 := Ext.trans e0 hw'; (try go_simp); (try rfl); done)
      try simp only [Act.put, List.setIfInBounds_toArray, List.set_cons_zero, List.set_cons_succ]
      refine wpAnyE_take (i := 5) (v := ?_) (some 57) rfl rfl (by kernel_rfl) (by kernel_rfl) (by kernel_rfl) (fun _ _ _ h => h) ?_ ?_
      rotate_left 1
      · (refine Or.inl ⟨by rfl, ?_⟩; intro w' hw'; have hq := below_via hcur hw'; have hq_e0 := Ext.trans e0 hw'; (try go_simp); (try rfl); done)
      try simp only [Act.put, List.setIfInBounds_toArray, List.set_cons_zero, List.set_cons_succ]
      refine wpAnyE_take (i := 6) (v := ?_) (some 58) rfl rfl (by kernel_rfl) (by kernel_rfl) (by kernel_rfl) (fun _ _ _ h => h) ?_ ?_
      rotate_left 1
      · (refine Or.inl ⟨by rfl, ?_⟩; intro w' hw'; have hq := below_via hcur hw'; have hq_e0 := Ext.trans e0 hw'; (try go_simp); (try rfl); done)
      try simp only [Act.put, List.setIfInBounds_toArray, List.set_cons_zero, List.set_cons_succ]
      refine wpAnyE_take (i := 7) (v := ?_) (some 59) rfl rfl (by kernel_rfl) (by kernel_rfl) (by kernel_rfl) (fun _ _ _ h => h) ?_ ?_
      rotate_left 1
      · (refine Or.inl ⟨by rfl, ?_⟩; intro w' hw'; have hq := below_via hcur hw'; have hq_e0 := Ext.trans e0 hw'; (try go_simp); (try rfl); done)
      try simp only [Act.put, List.setIfInBounds_toArray, List.set_cons_zero, List.set_cons_succ]
      refine wpAnyE_one (i := 4) rfl (by kernel_rfl) (by rfl) (fun K hK => ?_)
      go_simp
      (with_reducible refine (sumSt_any x _ _ (f1 _ e0) (by omega)).mono ?_); rintro e w5 ⟨rfl, hb⟩
      refine hK.out _ _ hb ?_
      replace hcur := below_via hcur hb; clear hK K
      replace e0 := Ext.trans e0 hb
      try simp only [Act.put, List.setIfInBounds_toArray, List.set_cons_zero, List.set_cons_succ]
      refine wpAnyE_one (i := 8) rfl (by kernel_rfl) (by rfl) (fun K hK => ?_)
      go_simp
      (with_reducible refine (shaSum_any _ _ _ (f2 _ e0) (by omega)).mono ?_); rintro e w5 ⟨rfl, hb⟩
      refine hK.out _ _ hb ?_
      replace hcur := below_via hcur hb; clear hK K
      replace e0 := Ext.trans e0 hb
      try simp only [Act.put, List.setIfInBounds_toArray, List.set_cons_zero, List.set_cons_succ]
      refine wpAnyE_take (i := 9) (v := ?_) (some 61) rfl rfl (by kernel_rfl) (by kernel_rfl) (by kernel_rfl) (fun _ _ _ h => h) ?_ ?_
      rotate_left 1
      · (refine Or.inl ⟨by rfl, ?_⟩; intro w' hw'; have hq := below_via hcur hw'; have hq_e0 := Ext.trans e0 hw'; (try go_simp); (try rfl); done)
      try simp only [Act.put, List.setIfInBounds_toArray, List.set_cons_zero, List.set_cons_succ]
      refine wpAnyE_take (i := 10) (v := ?_) (some 62) rfl rfl (by kernel_rfl) (by kernel_rfl) (by kernel_rfl) (fun _ _ _ h => h) ?_ ?_
      rotate_left 1
      · (refine Or.inl ⟨by rfl, ?_⟩; intro w' hw'; have hq := below_via hcur hw'; have hq_e0 := Ext.trans e0 hw'; (try go_simp); (try rfl); done)
      try simp only [Act.put, List.setIfInBounds_toArray, List.set_cons_zero, List.set_cons_succ]
      refine wpAnyE_take (i := 11) (v := ?_) (some 63) rfl rfl (by kernel_rfl) (by kernel_rfl) (by kernel_rfl) (fun _ _ _ h => h) ?_ ?_
      rotate_left 1
      · (refine Or.inl ⟨by rfl, ?_⟩; intro w' hw'; have hq := below_via hcur hw'; have hq_e0 := Ext.trans e0 hw'; (try go_simp); (try rfl); done)
      try simp only [Act.put, List.setIfInBounds_toArray, List.set_cons_zero, List.set_cons_succ]
      refine wpAnyE_take (i := 12) (v := ?_) (some 64) rfl rfl (by kernel_rfl) (by kernel_rfl) (by kernel_rfl) (fun _ _ _ h => h) ?_ ?_
      rotate_left 1
      · (refine Or.inl ⟨by rfl, ?_⟩; intro w' hw'; have hq := below_via hcur hw'; have hq_e0 := Ext.trans e0 hw'; (try go_simp); (try rfl); done)
      try simp only [Act.put, List.setIfInBounds_toArray, List.set_cons_zero, List.set_cons_succ]
      refine wpAnyE_take (i := 14) (v := ?_) (some 66) rfl rfl (by kernel_rfl) (by kernel_rfl) (by kernel_rfl) (fun _ _ _ h => h) ?_ ?_
      rotate_left 1
      · (refine Or.inl ⟨by rfl, ?_⟩; intro w' hw'; have hq := below_via hcur hw'; have hq_e0 := Ext.trans e0 hw'; (try go_simp); (try rfl); done)
      try simp only [Act.put, List.setIfInBounds_toArray, List.set_cons_zero, List.set_cons_succ]
      refine wpAnyE_one (i := 13) rfl (by kernel_rfl) (by rfl) (fun K hK => ?_)
      go_simp
      (with_reducible refine (sumSt_any x' _ _ (f3 _ e0) (by omega)).mono ?_); rintro e w5 ⟨rfl, hb⟩
      refine hK.out _ _ hb ?_
      replace hcur := below_via hcur hb; clear hK K
      replace e0 := Ext.trans e0 hb
      try simp only [Act.put, List.setIfInBounds_toArray, List.set_cons_zero, List.set_cons_succ]
      refine wpAnyE_one (i := 15) rfl (by kernel_rfl) (by rfl) (fun K hK => ?_)
      go_simp
      (with_reducible refine (sumSt_any x _ _ (f1 _ e0) (by omega)).mono ?_); rintro e w5 ⟨rfl, hb⟩
      refine hK.out _ _ hb ?_
      replace hcur := below_via hcur hb; clear hK K
      replace e0 := Ext.trans e0 hb
      try simp only [Act.put, List.setIfInBounds_toArray, List.set_cons_zero, List.set_cons_succ]
      refine wpAnyE_take (i := 16) (v := ?_) (some 68) rfl rfl (by kernel_rfl) (by kernel_rfl) (by kernel_rfl) (fun _ _ _ h => h) ?_ ?_
      rotate_left 1
      · (refine Or.inl ⟨by rfl, ?_⟩; intro w' hw'; have hq := below_via hcur hw'; have hq_e0 := Ext.trans e0 hw'; (try go_simp); (try rfl); done)
      try simp only [Act.put, List.setIfInBounds_toArray, List.set_cons_zero, List.set_cons_succ]
      refine wpAnyE_take (i := 17) (v := ?_) (some 69) rfl rfl (by kernel_rfl) (by kernel_rfl) (by kernel_rfl) (fun _ _ _ h => h) ?_ ?_
      rotate_left 1
      · (refine Or.inl ⟨by rfl, ?_⟩; intro w' hw'; have hq := below_via hcur hw'; have hq_e0 := Ext.trans e0 hw'; (try go_simp); (try rfl); done)
      try simp only [Act.put, List.setIfInBounds_toArray, List.set_cons_zero, List.set_cons_succ]
      refine wpAnyE_done (by kernel_rfl) ?_ _
      have hs5 := f1 _ e0
      have hs6 := f3 _ e0
      have hp6 := f4 _ e0
      clear f1 f2 f3 f4 hs4 hs4x kt4 kb4 kp4
      go_wp2_with fail
      refine (write_any x' _ ps _ _ hs6 hp6 hap2 (by omega)).mono ?_
      rintro e w7 ⟨rfl, hs7, g7⟩
      have hne : x ≠ x' := by have := hs3lt; omega
      have hs8 := hs5.kept g7 (by intro e; cases e; exact hne rfl)
      have bw8 := below_grown_at hcur g7 hcur.size hxx
      go_wp2_with fail
      go_roundw
      case rel => exact ⟨k + n, m + 1, by omega, by omega, by go_num, by go_num, hs8, bw8⟩
      case measure => simp [intOf]; omega
    · have hl1 : (b.take k).length = k := by rw [List.length_take]; omega
      have hl2 : (b.drop k).length = b.length - k := by rw [List.length_drop]
      have fin : ∀ (w0 : World), SlB w0 (.slice A b.length c) b → SlB w0 (.slice (slA A k c 1) (b.length - k) (c - k)) (b.drop k) := fun w0 h => by
        have := slB_slice h k b.length hk (Nat.le_refl _)
        rwa [List.take_of_length_le (by simp)] at this
      have kb' := fin _ kb
      have hap := fun hne => apart_lt (fin _ hb0) hne hx
      have qe := eql_dg_self (sha b) (sha_length _)
      have hwr := write_any x (b.take k) (b.drop k) _ _ hs kb' hap (by omega)
      rw [List.take_append_drop] at hwr
      by_cases h1 : m < ps.length
      · have h2 : ¬ k < b.length := fun h => h12 ⟨h1, h⟩
        clear h12
        go_wp2_with fail
        refine hwr.mono ?_
        rintro e w3 ⟨rfl, hs3, g3⟩
        have bw3 := below_grown_at bw g3 zw hx
        clear hs g3 kb kb' hap bw hwr
        go_wp2_with fail
        refine (sumSt_any x _ _ hs3 (by omega)).mono ?_
        rintro e w4 ⟨rfl, b4⟩
        go_wp2_with fail
        refine (shaSum_any _ b _ (hb0.below (Ext.trans bw3 b4)) (by omega)).mono ?_
        rintro e w5 ⟨rfl, b5⟩
        go_wp2_with fail
        refine (len_any x b _ ((hs3.below b4).below b5)).mono ?_
        rintro e w6 ⟨rfl, rfl⟩
        go_wp2_with fail
        go_ret
        exact ⟨rfl, Ext.trans bw3 (Ext.trans b4 b5)⟩
      · clear h12
        go_wp2_with fail
        refine hwr.mono ?_
        rintro e w3 ⟨rfl, hs3, g3⟩
        have bw3 := below_grown_at bw g3 zw hx
        clear hs g3 kb kb' hap bw hwr
        go_wp2_with fail
        refine (sumSt_any x _ _ hs3 (by omega)).mono ?_
        rintro e w4 ⟨rfl, b4⟩
        go_wp2_with fail
        refine (shaSum_any _ b _ (hb0.below (Ext.trans bw3 b4)) (by omega)).mono ?_
        rintro e w5 ⟨rfl, b5⟩
        go_wp2_with fail
        refine (len_any x b _ ((hs3.below b4).below b5)).mono ?_
        rintro e w6 ⟨rfl, rfl⟩
        go_wp2_with fail
        go_ret
        exact ⟨rfl, Ext.trans bw3 (Ext.trans b4 b5)⟩
end Go.Proofs.Ytbdgnlbbijpfmaa
