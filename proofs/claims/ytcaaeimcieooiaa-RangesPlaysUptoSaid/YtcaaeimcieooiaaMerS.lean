/- Root of the reference (walk). -/
import Derived.Test.YtcaaeimcieooiaaMerR
set_option linter.unusedVariables false
set_option linter.unusedSimpArgs false
namespace Go.Proofs.Ytcaaeimcieooiaa
open Go.RowKit
attribute [local go_sem high] dg_cells rs_l rs_lh rs_lhm rs_h rs_hm rs_all

set_option maxRecDepth 10000 in
set_option maxHeartbeats 4000000 in
theorem rroot_zero (v : Value) (w : World) (hv : SlD w v []) :
    Calls Try.prog 34 #[v] w fun e w' => e = .returned (dg (rootL [])) ∧ Below w.heap.size w w' := by
  have r0 : RowT 29 (w.alloc (.cells (bs zer).toArray 29 (0, 0))) w.heap.size zer := heap_alloc_new _ _
  have b0 := ext_alloc w (.cells (bs zer).toArray 29 (0, 0))
  obtain ⟨⟨A, c, rfl, hc, hcm, hA, hrr⟩, h32⟩ := hv
  have hrt := rootL_nil
  have hsum := fun w' => rsum_any (.slice none 0 0) [] w' (sl_nil w') (by decide)
  have hdN := sha_length []
  rw [hrt]
  generalize sha [] = dn at *
  clear hrr hrt
  go_enter Try.func34, Try.ntmps34
  go_wp2_with fail
  refine (hsum _).mono ?_
  rintro e w1 ⟨rfl, hb⟩
  have r1 := r0.below hb
  have b1 := Below.trans b0 (hb.mono (Below.size b0))
  have hret := arr_dg.loadVar (r1.setRow dn) hdN
  have bz := below_setRow b1 (Nat.le_refl _) (bs dn).toArray
  go_wp2_with ((with_reducible refine at_store ?_); refine arr_dg.storeL r1 zer_length rfl hdN _ _ rfl rfl rfl ?_)
  exact ret_cell (v := dg dn) Try.results34 rfl hret rfl ⟨rfl, bz⟩
set_option maxRecDepth 10000 in
set_option maxHeartbeats 4000000 in
theorem rroot_one (v : Value) {ds : List (List UInt8)} (w : World) (hl : ds.length = 1) (hv : SlD w v ds) :
    Calls Try.prog 34 #[v] w fun e w' => e = .returned (dg (rootL ds)) ∧ Below w.heap.size w w' := by
  have r0 : RowT 29 (w.alloc (.cells (bs zer).toArray 29 (0, 0))) w.heap.size zer := heap_alloc_new _ _
  have b0 := ext_alloc w (.cells (bs zer).toArray 29 (0, 0))
  have hv0 := hv.below b0
  obtain ⟨d, rfl⟩ : ∃ d, ds = [d] := by
    match ds, hl with
    | [d], _ => exact ⟨d, rfl⟩
  obtain ⟨⟨A, c, rfl, hc, hcm, hA, hrr⟩, h32⟩ := hv
  have hdN : d.length = 32 := h32 d (by simp)
  obtain ⟨ad, rfl, g0⟩ := hv0.get (i := 0) (by simp)
  have hrt := rootL_one d
  rw [hrt]
  have had : ad.add (0 * 32) = ad := by cases ad; simp [Addr.add]
  rw [had] at g0
  simp only [List.getD_cons_zero] at g0
  clear hrr hA hrt hv0
  have hret := arr_dg.loadVar (r0.setRow d) hdN
  have bz := below_setRow b0 (Nat.le_refl _) (bs d).toArray
  go_enter Try.func34, Try.ntmps34
  go_wp2_with (first
    | ((with_reducible refine at_store ?_); refine arr_dg.storeL r0 zer_length rfl hdN _ _ rfl rfl rfl ?_)
    | ((with_reducible refine at_load ?_); refine arr_dg.loadAtL g0 (by rfl) hdN _ rfl rfl ?_)
    | fail)
  exact ret_cell (v := dg d) Try.results34 rfl hret rfl ⟨rfl, bz⟩
set_option maxRecDepth 10000 in
set_option maxHeartbeats 4000000 in
theorem rroot_any : ∀ (n : Nat) (v : Value) (ds : List (List UInt8)) (w : World), ds.length ≤ n → n ≤ 1048576 → SlD w v ds →
    Calls Try.prog 34 #[v] w fun e w' => e = .returned (dg (rootL ds)) ∧ Below w.heap.size w w' := by
  intro n
  induction n with
  | zero =>
    intro v ds w hl _ hv
    have : ds = [] := List.eq_nil_of_length_eq_zero (by omega)
    subst this
    exact rroot_zero v w hv
  | succ n ih =>
    intro v ds w hl hn hv
    have r0 : RowT 29 (w.alloc (.cells (bs zer).toArray 29 (0, 0))) w.heap.size zer := heap_alloc_new _ _
    have b0 := ext_alloc w (.cells (bs zer).toArray 29 (0, 0))
    have hv0 := hv.below b0
    have hv1 := hv
    obtain ⟨⟨A, c, rfl, hc, hcm, hA, hrr⟩, h32⟩ := hv
    by_cases h1 : ds.length = 0
    · have : ds = [] := List.eq_nil_of_length_eq_zero h1
      subst this
      exact rroot_zero _ w hv1
    · by_cases h2 : ds.length = 1
      · exact rroot_one _ w h2 hv1
      · have hk := kOf_lt (n := ds.length) (by omega) (by omega)
        have hku := fun j => kOf_unique (n := ds.length) (j := j) (by omega) (by omega)
        have hrt := rootL_two (l := ds) (by omega) (by omega)
        generalize hkk : kOf ds.length = k at *
        replace hkk : Hid _ := hkk
        replace hrt : Hid _ := hrt
        have q1 : ((ds.length : Int) == 0) = false := by rw [beq_eq_false_iff_ne]; omega
        have q2 : ((ds.length : Int) == 1) = false := by rw [beq_eq_false_iff_ne]; omega
        obtain ⟨W, hW⟩ : ∃ W, w.alloc (.cells (bs zer).toArray 29 (0, 0)) = W := ⟨_, rfl⟩
        rw [hW] at r0 b0 hv0
        go_enter Try.func34, Try.ntmps34
        go_wp2_with fail
        go_loop [3] (fun i => ∃ j kk : Nat, 1 ≤ kk ∧ kk < ds.length ∧ Hid (2 ^ j = kk) ∧ i = .int .i64 kk) (fun i => ds.length - (intOf i).toNat)
        case atStart => exact ⟨0, 1, by omega, by omega, rfl, rfl⟩
        case round =>
          obtain ⟨j, kk, a1, a2, a3, rfl⟩ := hrel
          have w0 : IntKind.i64.wrap (2 * (kk : Int)) = 2 * (kk : Int) := by rw [IntKind.wrap_i64]; omega
          by_cases hc2 : 2 * kk < ds.length
          · go_wp2_with fail
            go_round
            case rel => exact ⟨j + 1, 2 * kk, by omega, hc2, by have := a3.out; unfold Hid; rw [Nat.pow_succ, this]; omega, by go_num⟩
            case measure => simp [intOf]; omega
          · have hkk2 : kk = k := by
              have h3 := hku j
              rw [a3.out] at h3
              exact h3 a2 (by omega)
            subst hkk2
            clear hku a3
            go_wp2_with fail
            rw [← hW] at hv0 r0 b0
            have g1 : (kk : Int) ≤ c := by omega
            have g2 : (kk : Int) ≤ ds.length := by omega
            have hL0 := hv0.slice 0 kk (by omega) (by omega)
            simp only [List.drop_zero, Nat.sub_zero, slA_zero] at hL0
            have hR0 := hv0.slice kk ds.length (by omega) (Nat.le_refl _)
            rw [List.take_of_length_le (by simp)] at hR0
            clear hv0 hv1 q1 q2 hrr hA hcm hW W
            generalize hWW : World.alloc w _ = W
            have hW2 : w.alloc (.cells (bs zer).toArray 29 (0, 0)) = W := by rw [← hWW]; rfl
            rw [hW2] at r0 b0 hL0 hR0
            clear hWW hW2
            have fL := fun w' (h : Ext W w') => hL0.below h
            have fR := fun w' (h : Ext W w') => hR0.below h
            have fr := fun w' (h : Ext W w') => r0.below h
            have hdL := rootL_length ds.length (ds.take kk) (by rw [List.length_take]; omega) (by omega) (h32.take kk)
            have hdR := rootL_length ds.length (ds.drop kk) (by rw [List.length_drop]; omega) (by omega) (h32.drop kk)
            have hdN := nodeL_length (rootL (ds.take kk)) (rootL (ds.drop kk))
            have iL := fun v w' => ih v (ds.take kk) w' (by rw [List.length_take]; omega) (by omega)
            have iR := fun v w' => ih v (ds.drop kk) w' (by rw [List.length_drop]; omega) (by omega)
            replace hrt : rootL ds = nodeL (rootL (ds.take kk)) (rootL (ds.drop kk)) := hrt.out
            generalize rootL (ds.take kk) = da at *
            generalize rootL (ds.drop kk) = db at *
            have nd := fun w' => rnode_any da db hdL hdR w'
            generalize nodeL da db = dn at *
            have hcur : Below w.heap.size w W := b0
            have e0 := Ext.refl W
            replace hrt : Hid _ := hrt
            clear ih hL0 hR0
            refine wp_region_F 9 (by kernel_rfl) (fun hcl => ?_)
            replace hcur := below_via hcur (ext_drew _)
            replace e0 := Ext.trans e0 (ext_drew _)
            refine wpAnyF_take (fin := 9) (i := 0) (v := ?_) hcl (some 21) rfl rfl (by kernel_rfl) (by kernel_rfl) (by kernel_rfl) (fun _ _ _ h => h) (by kernel_rfl) ?_ (fun hcl => ?_)
            rotate_left 1
            · (refine Or.inl ⟨by rfl, ?_⟩; intro w' hw'; have hq := below_via hcur hw'; have hq_e0 := Ext.trans e0 hw'; (try go_simp); (try rfl); done)
            try simp only [Act.put, List.setIfInBounds_toArray, List.set_cons_zero, List.set_cons_succ]
            refine wpAnyF_take (fin := 9) (i := 1) (v := ?_) hcl (some 22) rfl rfl (by kernel_rfl) (by kernel_rfl) (by kernel_rfl) (fun _ _ _ h => h) (by kernel_rfl) ?_ (fun hcl => ?_)
            rotate_left 1
            · (refine Or.inl ⟨by rfl, ?_⟩; intro w' hw'; have hq := below_via hcur hw'; have hq_e0 := Ext.trans e0 hw'; (try go_simp); (try rfl); done)
            try simp only [Act.put, List.setIfInBounds_toArray, List.set_cons_zero, List.set_cons_succ]
            refine wpAnyF_take (fin := 9) (i := 2) (v := ?_) hcl (some 23) rfl rfl (by kernel_rfl) (by kernel_rfl) (by kernel_rfl) (fun _ _ _ h => h) (by kernel_rfl) ?_ (fun hcl => ?_)
            rotate_left 1
            · (refine Or.inl ⟨by rfl, ?_⟩; intro w' hw'; have hq := below_via hcur hw'; have hq_e0 := Ext.trans e0 hw'; (try go_simp); (try rfl); done)
            try simp only [Act.put, List.setIfInBounds_toArray, List.set_cons_zero, List.set_cons_succ]
            refine wpAnyF_take (fin := 9) (i := 4) (v := ?_) hcl (some 25) rfl rfl (by kernel_rfl) (by kernel_rfl) (by kernel_rfl) (fun _ _ _ h => h) (by kernel_rfl) ?_ (fun hcl => ?_)
            rotate_left 1
            · (refine Or.inl ⟨by rfl, ?_⟩; intro w' hw'; have hq := below_via hcur hw'; have hq_e0 := Ext.trans e0 hw'; (try go_simp); (try rfl); done)
            try simp only [Act.put, List.setIfInBounds_toArray, List.set_cons_zero, List.set_cons_succ]
            refine wpAnyF_take (fin := 9) (i := 5) (v := ?_) hcl (some 26) rfl rfl (by kernel_rfl) (by kernel_rfl) (by kernel_rfl) (fun _ _ _ h => h) (by kernel_rfl) ?_ (fun hcl => ?_)
            rotate_left 1
            · (refine Or.inl ⟨by rfl, ?_⟩; intro w' hw'; have hq := below_via hcur hw'; have hq_e0 := Ext.trans e0 hw'; (try go_simp); (try rfl); done)
            try simp only [Act.put, List.setIfInBounds_toArray, List.set_cons_zero, List.set_cons_succ]
            refine wpAnyF_take (fin := 9) (i := 6) (v := ?_) hcl (some 27) rfl rfl (by kernel_rfl) (by kernel_rfl) (by kernel_rfl) (fun _ _ _ h => h) (by kernel_rfl) ?_ (fun hcl => ?_)
            rotate_left 1
            · (refine Or.inl ⟨by rfl, ?_⟩; intro w' hw'; have hq := below_via hcur hw'; have hq_e0 := Ext.trans e0 hw'; (try go_simp); (try rfl); done)
            try simp only [Act.put, List.setIfInBounds_toArray, List.set_cons_zero, List.set_cons_succ]
            refine wpAnyF_one (fin := 9) (i := 3) hcl rfl (by kernel_rfl) (by rfl) (fun hcl K hK => ?_)
            go_simp
            (with_reducible refine (iL _ _ (fL _ e0)).mono ?_); rintro e w5 ⟨rfl, hb⟩
            refine hK.out _ _ hb ?_
            replace hcur := below_via hcur hb; clear hK K
            replace e0 := Ext.trans e0 hb
            try simp only [Act.put, List.setIfInBounds_toArray, List.set_cons_zero, List.set_cons_succ]
            refine wpAnyF_one (fin := 9) (i := 7) hcl rfl (by kernel_rfl) (by rfl) (fun hcl K hK => ?_)
            go_simp
            (with_reducible refine (iR _ _ (fR _ e0)).mono ?_); rintro e w6 ⟨rfl, hb⟩
            refine hK.out _ _ hb ?_
            replace hcur := below_via hcur hb; clear hK K
            replace e0 := Ext.trans e0 hb
            try simp only [Act.put, List.setIfInBounds_toArray, List.set_cons_zero, List.set_cons_succ]
            refine wpAnyF_one (fin := 9) (i := 8) hcl rfl (by kernel_rfl) (by rfl) (fun hcl K hK => ?_)
            go_simp
            (with_reducible refine (nd _).mono ?_); rintro e w7 ⟨rfl, hb⟩
            refine hK.out _ _ hb ?_
            replace hcur := below_via hcur hb; clear hK K
            replace e0 := Ext.trans e0 hb
            try simp only [Act.put, List.setIfInBounds_toArray, List.set_cons_zero, List.set_cons_succ]
            refine wpAnyF_last (fin := 9) rfl (by kernel_rfl) (by kernel_rfl) (by rfl) (fun K hK => ?_)
            have r9 := fr _ e0
            refine arr_dg.store r9 zer_length hdN _ _ rfl rfl rfl ?_
            refine hK.out _ _ ?_
            clear hK K hcl
            have hret := arr_dg.loadVar (r9.setRow dn) hdN
            have bz := below_setRow hcur (Nat.le_refl _) (bs dn).toArray
            go_wp2_with fail
            refine ret_cell (v := dg dn) Try.results34 ?_ hret ?_ ?_
            · rfl
            · rfl
            · exact ⟨by rw [hrt.out], bz⟩
end Go.Proofs.Ytcaaeimcieooiaa
