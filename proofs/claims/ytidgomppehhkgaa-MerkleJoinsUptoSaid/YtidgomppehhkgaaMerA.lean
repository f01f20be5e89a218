/- The law MerkleStands (walk). -/
import Derived.Test.YtidgomppehhkgaaMerY
set_option linter.unusedVariables false
set_option linter.unusedSimpArgs false
namespace Go.Proofs.Ytidgomppehhkgaa
open Go.RowKit
attribute [local go_sem high] dg_cells guard_dg rs_l rs_lh rs_lhm rs_h rs_hm rs_all

theorem tmod_nat (a : Int) (ha : 0 ≤ a) (m : Nat) (hm : 0 < m) : ∃ f : Nat, a.tmod (m : Int) = f ∧ f < m := by
  rw [Int.tmod_eq_emod_of_nonneg ha]
  have hm1 := Int.emod_nonneg a (show (m : Int) ≠ 0 by omega)
  have hm2 := Int.emod_lt_of_pos a (show 0 < (m : Int) by omega)
  exact ⟨(a % (m : Int)).toNat, by omega, by omega⟩
set_option maxRecDepth 10000 in
set_option maxHeartbeats 8000000 in
theorem law_MerkleStands (v : Value) (ds : List (List UInt8)) (lv ix : UInt8) (w : World) (hv : SlD w v ds) (hl : ds.length * 32 ≤ 1048576) :
    Calls Try.prog 5 #[v, .int .u8 (c8 lv), .int .u8 (c8 ix)] w fun e w' => e = .returned (.bool true) ∧ Below w.heap.size w w' := by
  have h32 := hv.2
  have hls : ds.length ≤ 1048576 := by omega
  have clv := fun w' h => levels_any v ds w' h hls
  obtain ⟨⟨A, c, rfl, _⟩, _⟩ := id hv
  go_enter Try.func5, Try.ntmps5
  go_wp2_with fail
  (with_reducible refine (clv _ hv).mono ?_); rintro e w1 ⟨va, vs, rfl, hla, hra, b1⟩
  have hv1 := hv.below b1
  have hLa := hra.len
  have hL0 := lvls_length ds
  have hsp := lvl_spec ds.length (by omega)
  have hgt := lvls_get ds
  have hL21 := lvl_le _ hls
  rw [← hL0] at hsp hgt hL21
  generalize lvls ds = dss at *
  clear hL0 hv clv
  obtain ⟨A', ca, rfl, _⟩ := id hla.sl
  have hca : ∀ j u, vs[j]? = some u → ∃ ga, A' = some ⟨ga, 0, none⟩ ∧ w1.cell? ⟨ga, j, none⟩ = some u := fun j u h => by
    have hj := (List.getElem?_eq_some_iff.1 h).1
    obtain ⟨ga, ca', ea, _, _, hc⟩ := hla.some (by omega)
    injection ea with e1 _ e3
    exact ⟨ga, e1, hc j u h⟩
  have hrow : ∀ j, j < dss.length → ∃ gx cx, vs[j]? = some (.slice (some ⟨gx, 0, none⟩) (ds.length / 2 ^ j) cx) ∧ SlD w1 (.slice (some ⟨gx, 0, none⟩) (ds.length / 2 ^ j) cx) (levN ds j) ∧ 0 < ds.length / 2 ^ j := fun j hj => by
    obtain ⟨u, hu, ho, hn⟩ := hra.get hj
    rw [hgt j hj] at ho hn
    obtain ⟨gx, cx, rfl, _, _⟩ := ho.some hn
    have hs := ho.sl
    rw [levN_length] at hu hs hn
    exact ⟨gx, cx, hu, hs, hn⟩
  clear hra hla hgt
  rw [hLa]
  have hHid : Hid (vs.length = dss.length) := hLa
  clear hLa
  go_wp2_with fail
  go_loop [8, 9] (fun n i => ∃ (j m : Nat), j ≤ dss.length ∧ Hid (m = ds.length / 2 ^ j) ∧ m ≤ ds.length ∧ n = .int .i64 m ∧ i = .int .i64 j) (fun _ i => dss.length - (intOf i).toNat)
  case atStart => exact ⟨0, ds.length, by omega, by unfold Hid; simp, by omega, rfl, rfl⟩
  case round =>
    obtain ⟨j, m, hj, hm, hmL, rfl, rfl⟩ := hrel
    by_cases hlt : j < dss.length
    · obtain ⟨gx, cx, hu, _, hn⟩ := hrow j hlt
      rw [← hm.out] at hu hn
      obtain ⟨ga, rfl, hcell⟩ := hca j _ hu
      have q1 : ((m : Int) != m) = false := by simp
      have q2 : ((m : Int) == 0) = false := by rw [beq_eq_false_iff_ne]; omega
      have hjl : (j : Int) < dss.length := by omega
      clear hu
      go_wp2_with fail
      go_round
      case rel => exact ⟨j + 1, m / 2, by omega, by have := hm.out; unfold Hid; rw [this, half_len], by omega, by go_num, by go_num⟩
      case measure => simp [intOf]; omega
    · obtain rfl : j = dss.length := by omega
      have hm0 : m = 0 := by
        have h1 := hsp dss.length
        rw [← hm.out] at h1
        omega
      subst hm0
      clear hm hmL
      by_cases hz : dss.length = 0
      · have hd0 : ds.length = 0 := by
          have h1 := hsp 0
          rw [Nat.pow_zero, Nat.div_one] at h1
          omega
        rw [hz, hd0]
        go_wp2_with fail
        refine (wakes_any _).mono ?_; rintro e w12 ⟨rfl, b12⟩
        go_wp2_with fail
        go_ret
        exact ⟨rfl, Ext.trans b1 b12⟩
      · have hzp : 0 < dss.length := by omega
        obtain ⟨i, hi, hiL⟩ := tmod_nat (c8 lv) (c8_nonneg lv) dss.length hzp
        obtain ⟨gx, cx, hu, hsx, hn⟩ := hrow i hiL
        obtain ⟨k, hk, hkL⟩ := tmod_nat (c8 ix) (c8_nonneg ix) (ds.length / 2 ^ i) hn
        obtain ⟨ga, rfl, hcell⟩ := hca i _ hu
        have hpl := part_le hkL
        have hqz : ((dss.length : Int) == 0) = false := by rw [beq_eq_false_iff_ne]; omega
        have hgl := hsx.get (i := k) (by rw [levN_length]; exact hkL)
        have hpg := levN_get ds i k hkL
        have hplen : (partL ds i k).length = 32 := rootL_length _ _ (Nat.le_refl _) (by rw [List.length_take, List.length_drop]; omega) ((h32.drop _).take _)
        have hp2 := Nat.two_pow_pos i
        have hsub := fun w' h => sub_any (.slice A ds.length c) ds ((k * 2 ^ i : Nat) : Int) ((k * 2 ^ i + 2 ^ i : Nat) : Int) w' hls h
        have e1 : subL ds ((k * 2 ^ i : Nat) : Int) ((k * 2 ^ i + 2 ^ i : Nat) : Int) = partL ds i k := by
          unfold subL partL
          rw [if_neg (by omega), Int.toNat_natCast, Int.toNat_natCast, Nat.add_sub_cancel_left]
        have e2 : subE ds ((k * 2 ^ i : Nat) : Int) ((k * 2 ^ i + 2 ^ i : Nat) : Int) = 0 := by
          unfold subE
          rw [if_neg (by omega)]
        rw [e1, e2] at hsub
        rw [hpg] at hgl
        clear e1 e2 hu hrow hca hsp
        have hiI : (i : Int) < dss.length := by omega
        have kI : (k : Int) < (ds.length / 2 ^ i : Nat) := by omega
        have wl : ∀ x : UInt8, RowKit.wrap64 (c8 x) = c8 x := fun x => by have := c8_nonneg x; have := c8_lt x; unfold RowKit.wrap64; omega
        rw [← wl lv] at hi
        rw [← wl ix] at hk
        clear wl
        replace hpl : Hid _ := hpl
        replace hp2 : Hid _ := hp2
        replace hpg : Hid _ := hpg
        have hml : Hid (ds.length / 2 ^ i ≤ ds.length) := Nat.div_le_self _ _
        generalize hmm : ds.length / 2 ^ i = m at *
        replace hmm : Hid _ := hmm
        have e3 : RowKit.wrap64 ((k : Int) * 2 ^ i) = ((k * 2 ^ i : Nat) : Int) := by
          have h1 : (k : Int) * 2 ^ i = ((k * 2 ^ i : Nat) : Int) := by simp
          rw [h1]
          have := hpl.out
          generalize k * 2 ^ i = p at *
          generalize 2 ^ i = p2 at *
          unfold RowKit.wrap64; omega
        have e4 : RowKit.wrap64 (RowKit.wrap64 ((k : Int) + 1) * 2 ^ i) = ((k * 2 ^ i + 2 ^ i : Nat) : Int) := by
          have h0 : RowKit.wrap64 ((k : Int) + 1) = ((k + 1 : Nat) : Int) := by
            have := hml.out
            unfold RowKit.wrap64; omega
          have h1 : ((k + 1 : Nat) : Int) * 2 ^ i = ((k * 2 ^ i + 2 ^ i : Nat) : Int) := by rw [← Nat.succ_mul]; simp
          rw [h0, h1]
          have := hpl.out
          generalize k * 2 ^ i = p at *
          generalize 2 ^ i = p2 at *
          unfold RowKit.wrap64; omega
        replace e3 : Hid _ := e3
        replace e4 : Hid _ := e4
        go_wp2_with fail
        rw [e3.out, e4.out]
        (with_reducible refine (hsub _ hv1).mono ?_); rintro e w2 ⟨rfl, b2⟩
        clear e3 e4 hsub
        generalize partL ds i k = d at *
        have e3 := ext_alloc w2 (.cells (bs d).toArray 25 (0, 0))
        have rX : RowT 25 (w2.alloc (.cells (bs d).toArray 25 (0, 0))) w2.heap.size d := heap_alloc_new _ _
        have b3 := Ext.trans b2 e3
        have hs3 := hsx.below b3
        have hc3 := (b3.cell (World.block_lt_of_cell? _ _ hcell)).trans hcell
        have bw3 := Ext.trans b1 b3
        clear hcell b2 e3 b3 hsx hgl hv1 b1
        go_wp2_with ((with_reducible refine at_store ?_); refine arr_dg.store_newL zer_length rfl hplen _ _ rfl rfl rfl ?_)
        generalize hX : w2.heap.size = X at *
        generalize hW3 : w2.alloc (.cells (bs d).toArray 25 (0, 0)) = W3 at *
        clear hX hW3
        have hcur : Below w.heap.size w W3 := bw3
        have e0 := Ext.refl W3
        have q1 := eql_dg_self d hplen
        have cA := fun (w' : World) (h : Ext W3 w') => (h.cell (World.block_lt_of_cell? _ _ hc3)).trans hc3
        have cG : ∀ (w' : World), Ext W3 w' → RdB w' (some ⟨gx, k * 32, none⟩) d := fun w' h => by
          obtain ⟨_, e, hh⟩ := (hs3.below h).get (i := k) (by rw [levN_length, hmm.out]; exact hkL)
          rw [hpg.out] at hh
          cases e; rw [Addr.add_lit, Nat.zero_add] at hh; exact hh
        refine wp_region_E (by kernel_rfl) ?_
        replace hcur := below_via hcur (ext_drew _)
        replace e0 := Ext.trans e0 (ext_drew _)
        refine wpAnyE_take (i := 0) (v := ?_) (some 81) rfl rfl (by kernel_rfl) (by kernel_rfl) (by kernel_rfl) (fun _ _ _ h => h) ?_ ?_
        rotate_left 1
        · (refine Or.inl ⟨by rfl, ?_⟩; intro w' hw'; have hq := below_via hcur hw'; have hq_e0 := Ext.trans e0 hw'; (try go_simp); (try rfl); done)
        try simp only [Act.put, List.setIfInBounds_toArray, List.set_cons_zero, List.set_cons_succ]
        refine wpAnyE_take (i := 1) (v := ?_) (some 82) rfl rfl (by kernel_rfl) (by kernel_rfl) (by kernel_rfl) (fun _ _ _ h => h) ?_ ?_
        rotate_left 1
        · (refine Or.inl ⟨by rfl, ?_⟩; intro w' hw'; have hq := below_via hcur hw'; have hq_e0 := Ext.trans e0 hw'; (try go_simp); (try rfl); done)
        try simp only [Act.put, List.setIfInBounds_toArray, List.set_cons_zero, List.set_cons_succ]
        refine wpAnyE_take (i := 2) (v := ?_) (some 83) rfl rfl (by kernel_rfl) (by kernel_rfl) (by kernel_rfl) (fun _ _ _ h => h) ?_ ?_
        rotate_left 1
        · (refine Or.inl ⟨by rfl, ?_⟩; intro w' hw'; have hq := below_via hcur hw'; have hq_e0 := Ext.trans e0 hw'; (try go_simp); (try rfl); done)
        try simp only [Act.put, List.setIfInBounds_toArray, List.set_cons_zero, List.set_cons_succ]
        refine wpAnyE_take (i := 3) (v := ?_) (some 84) rfl rfl (by kernel_rfl) (by kernel_rfl) (by kernel_rfl) (fun _ _ _ h => h) ?_ ?_
        rotate_left 1
        · (refine Or.inl ⟨by rfl, ?_⟩; intro w' hw'; have hq := below_via hcur hw'; have hq_e0 := Ext.trans e0 hw'; (refine arr_dg.ex (rX.below hq_e0) hplen (.tmp 12) ?_ ?_ <;> rfl))
        try simp only [Act.put, List.setIfInBounds_toArray, List.set_cons_zero, List.set_cons_succ]
        refine wpAnyE_take (i := 4) (v := ?_) (some 85) rfl rfl (by kernel_rfl) (by kernel_rfl) (by kernel_rfl) (fun _ _ _ h => h) ?_ ?_
        rotate_left 1
        · (refine Or.inl ⟨by rfl, ?_⟩; intro w' hw'; have hq := below_via hcur hw'; have hq_e0 := Ext.trans e0 hw'; (try go_simp); (try rfl); done)
        try simp only [Act.put, List.setIfInBounds_toArray, List.set_cons_zero, List.set_cons_succ]
        refine wpAnyE_take (i := 5) (v := ?_) (some 86) rfl rfl (by kernel_rfl) (by kernel_rfl) (by kernel_rfl) (fun _ _ _ h => h) ?_ ?_
        rotate_left 1
        · (refine Or.inl ⟨by rfl, ?_⟩; intro w' hw'; have hq := below_via hcur hw'; have hq_e0 := Ext.trans e0 hw'; (try go_simp); (try rfl); done)
        try simp only [Act.put, List.setIfInBounds_toArray, List.set_cons_zero, List.set_cons_succ]
        refine wpAnyE_take (i := 6) (v := ?_) (some 87) rfl rfl (by kernel_rfl) (by kernel_rfl) (by kernel_rfl) (fun _ _ _ h => h) ?_ ?_
        rotate_left 1
        · (refine Or.inl ⟨by rfl, ?_⟩; intro w' hw'; have hq := below_via hcur hw'; have hq_e0 := Ext.trans e0 hw'; (try go_simp); (try rfl); done)
        try simp only [Act.put, List.setIfInBounds_toArray, List.set_cons_zero, List.set_cons_succ]
        refine wpAnyE_take (i := 7) (v := ?_) (some 88) rfl rfl (by kernel_rfl) (by kernel_rfl) (by kernel_rfl) (fun _ _ _ h => h) ?_ ?_
        rotate_left 1
        · (refine Or.inl ⟨by rfl, ?_⟩; intro w' hw'; have hq := below_via hcur hw'; have hq_e0 := Ext.trans e0 hw'; have hcl := cA _ hq_e0; (try go_simp); (try rfl); done)
        try simp only [Act.put, List.setIfInBounds_toArray, List.set_cons_zero, List.set_cons_succ]
        refine wpAnyE_take (i := 8) (v := ?_) (some 89) rfl rfl (by kernel_rfl) (by kernel_rfl) (by kernel_rfl) (fun _ _ _ h => h) ?_ ?_
        rotate_left 1
        · (refine Or.inl ⟨by rfl, ?_⟩; intro w' hw'; have hq := below_via hcur hw'; have hq_e0 := Ext.trans e0 hw'; (try go_simp); (try rfl); done)
        try simp only [Act.put, List.setIfInBounds_toArray, List.set_cons_zero, List.set_cons_succ]
        refine wpAnyE_take (i := 9) (v := ?_) (some 90) rfl rfl (by kernel_rfl) (by kernel_rfl) (by kernel_rfl) (fun _ _ _ h => h) ?_ ?_
        rotate_left 1
        · (refine Or.inl ⟨by rfl, ?_⟩; intro w' hw'; have hq := below_via hcur hw'; have hq_e0 := Ext.trans e0 hw'; (try go_simp); (try rfl); done)
        try simp only [Act.put, List.setIfInBounds_toArray, List.set_cons_zero, List.set_cons_succ]
        refine wpAnyE_take (i := 10) (v := ?_) (some 91) rfl rfl (by kernel_rfl) (by kernel_rfl) (by kernel_rfl) (fun _ _ _ h => h) ?_ ?_
        rotate_left 1
        · (refine Or.inl ⟨by rfl, ?_⟩; intro w' hw'; have hq := below_via hcur hw'; have hq_e0 := Ext.trans e0 hw'; (refine arr_dg.exAt (cG _ hq_e0) hplen (.tmp 90) ?_ ?_ <;> rfl))
        try simp only [Act.put, List.setIfInBounds_toArray, List.set_cons_zero, List.set_cons_succ]
        refine wpAnyE_take (i := 11) (v := ?_) (some 92) rfl rfl (by kernel_rfl) (by kernel_rfl) (by kernel_rfl) (fun _ _ _ h => h) ?_ ?_
        rotate_left 1
        · (refine Or.inl ⟨by rfl, ?_⟩; intro w' hw'; have hq := below_via hcur hw'; have hq_e0 := Ext.trans e0 hw'; (try go_simp); (try rfl); done)
        try simp only [Act.put, List.setIfInBounds_toArray, List.set_cons_zero, List.set_cons_succ]
        refine wpAnyE_take (i := 12) (v := ?_) (some 93) rfl rfl (by kernel_rfl) (by kernel_rfl) (by kernel_rfl) (fun _ _ _ h => h) ?_ ?_
        rotate_left 1
        · (refine Or.inl ⟨by rfl, ?_⟩; intro w' hw'; have hq := below_via hcur hw'; have hq_e0 := Ext.trans e0 hw'; (try go_simp); (try rfl); done)
        try simp only [Act.put, List.setIfInBounds_toArray, List.set_cons_zero, List.set_cons_succ]
        refine wpAnyE_take (i := 13) (v := ?_) (some 94) rfl rfl (by kernel_rfl) (by kernel_rfl) (by kernel_rfl) (fun _ _ _ h => h) ?_ ?_
        rotate_left 1
        · (refine Or.inl ⟨by rfl, ?_⟩; intro w' hw'; have hq := below_via hcur hw'; have hq_e0 := Ext.trans e0 hw'; (try go_simp); (try rfl); done)
        try simp only [Act.put, List.setIfInBounds_toArray, List.set_cons_zero, List.set_cons_succ]
        refine wpAnyE_one (i := 14) rfl (by kernel_rfl) (by rfl) (fun K hK => ?_)
        go_simp
        (with_reducible refine (wakes_any _).mono ?_); rintro e w5 ⟨rfl, hb⟩
        refine hK.out _ _ hb ?_
        replace hcur := below_via hcur hb; clear hK K
        replace e0 := Ext.trans e0 hb
        try simp only [Act.put, List.setIfInBounds_toArray, List.set_cons_zero, List.set_cons_succ]
        refine wpAnyE_take (i := 15) (v := ?_) (some 96) rfl rfl (by kernel_rfl) (by kernel_rfl) (by kernel_rfl) (fun _ _ _ h => h) ?_ ?_
        rotate_left 1
        · (refine Or.inl ⟨by rfl, ?_⟩; intro w' hw'; have hq := below_via hcur hw'; have hq_e0 := Ext.trans e0 hw'; (try go_simp); (try rfl); done)
        try simp only [Act.put, List.setIfInBounds_toArray, List.set_cons_zero, List.set_cons_succ]
        refine wpAnyE_take (i := 16) (v := ?_) (some 6) rfl rfl (by kernel_rfl) (by kernel_rfl) (by kernel_rfl) (fun _ _ _ h => h) ?_ ?_
        rotate_left 1
        · (refine Or.inl ⟨by rfl, ?_⟩; intro w' hw'; have hq := below_via hcur hw'; have hq_e0 := Ext.trans e0 hw'; (try go_simp); (try rfl); done)
        try simp only [Act.put, List.setIfInBounds_toArray, List.set_cons_zero, List.set_cons_succ]
        refine wpAnyE_done (by kernel_rfl) ?_ _
        go_wp2_with fail
        go_ret
        exact ⟨rfl, hcur⟩
end Go.Proofs.Ytidgomppehhkgaa
