/- Root of the program and of the reference (walks). -/
import Derived.Test.YtcaaeimcieooiaaMerN
import Derived.Test.YtcaaeimcieooiaaMerD
set_option linter.unusedVariables false
set_option linter.unusedSimpArgs false
namespace Go.Proofs.Ytcaaeimcieooiaa
open Go.RowKit
attribute [local go_sem high] dg_cells rs_l rs_lh rs_lhm rs_h rs_hm rs_all

theorem SlD.cap {w : World} {A : Option Addr} {n c : Nat} {ds : List (List UInt8)} (h : SlD w (.slice A n c) ds) (m : Nat) (h1 : n ≤ m) (h2 : m ≤ c) : SlD w (.slice A n m) ds := by
  obtain ⟨⟨A', c', e, hc, hcm, hA, hr⟩, h32⟩ := h
  injection e with e1 e2 e3
  subst e1; subst e3; subst e2
  exact ⟨⟨A, m, rfl, h1, by omega, fun h0 => by have := hA h0; omega, hr⟩, h32⟩
theorem kOf_exp (n : Nat) (h : 2 ≤ n) (hn : n ≤ 1048576) : ∃ e : Nat, Lib.bitLen (n - 1) = e + 1 ∧ kOf n = 2 ^ e ∧ e ≤ 20 := by
  obtain ⟨h1, h2, h3⟩ := bitLen_range 64 (n - 1) (by omega) (by omega) (by omega)
  obtain ⟨a, b, _⟩ := kOf_lt h (by omega)
  refine ⟨Lib.bitLen (n - 1) - 1, by omega, rfl, ?_⟩
  by_cases hc : Lib.bitLen (n - 1) - 1 ≤ 20
  · exact hc
  · have := Nat.pow_le_pow_right (n := 2) (by omega) (show 21 ≤ Lib.bitLen (n - 1) - 1 by omega)
    unfold kOf at a; omega
set_option maxRecDepth 10000 in
set_option maxHeartbeats 4000000 in
theorem root_zero (v : Value) (w : World) (hv : SlD w v []) :
    Calls Try.prog 18 #[v] w fun e w' => e = .returned (dg (rootL [])) ∧ Below w.heap.size w w' := by
  have r0 : RowT 29 (w.alloc (.cells (bs zer).toArray 29 (0, 0))) w.heap.size zer := heap_alloc_new _ _
  have b0 := ext_alloc w (.cells (bs zer).toArray 29 (0, 0))
  obtain ⟨⟨A, c, rfl, hc, hcm, hA, hrr⟩, h32⟩ := hv
  have hrt := rootL_nil
  have hsum := fun w' => shaSum_any (.slice none 0 0) [] w' (sl_nil w') (by decide)
  have hdN := sha_length []
  rw [hrt]
  generalize sha [] = dn at *
  clear hrr hrt
  go_enter Try.func18, Try.ntmps18
  go_wp2_with fail
  refine (hsum _).mono ?_
  rintro e w1 ⟨rfl, hb⟩
  have r1 := r0.below hb
  have b1 := Below.trans b0 (hb.mono (Below.size b0))
  have hret := arr_dg.loadVar (r1.setRow dn) hdN
  have bz := below_setRow b1 (Nat.le_refl _) (bs dn).toArray
  go_wp2_with ((with_reducible refine at_store ?_); refine arr_dg.storeL r1 zer_length rfl hdN _ _ rfl rfl rfl ?_)
  exact ret_cell (v := dg dn) Try.results18 rfl hret rfl ⟨rfl, bz⟩
set_option maxRecDepth 10000 in
set_option maxHeartbeats 4000000 in
theorem root_one (v : Value) {ds : List (List UInt8)} (w : World) (hl : ds.length = 1) (hv : SlD w v ds) :
    Calls Try.prog 18 #[v] w fun e w' => e = .returned (dg (rootL ds)) ∧ Below w.heap.size w w' := by
  have r0 : RowT 29 (w.alloc (.cells (bs zer).toArray 29 (0, 0))) w.heap.size zer := heap_alloc_new _ _
  have b0 := ext_alloc w (.cells (bs zer).toArray 29 (0, 0))
  have hv0 := hv.below b0
  obtain ⟨d, rfl⟩ : ∃ d, ds = [d] := by
    match ds, hl with
    | [d], _ => exact ⟨d, rfl⟩
  obtain ⟨⟨A, c, rfl, hc, hcm, hA, hrr⟩, h32⟩ := hv
  have hdN : d.length = 32 := h32 d (by simp)
  obtain ⟨ad, rfl, g0⟩ := hv0.get (i := 0) (by simp)
  have hrt := rootL_one d
  rw [hrt]
  have had : ad.add (0 * 32) = ad := by cases ad; simp [Addr.add]
  rw [had] at g0
  simp only [List.getD_cons_zero] at g0
  clear hrr hA hrt hv0
  have hret := arr_dg.loadVar (r0.setRow d) hdN
  have bz := below_setRow b0 (Nat.le_refl _) (bs d).toArray
  go_enter Try.func18, Try.ntmps18
  go_wp2_with (first
    | ((with_reducible refine at_store ?_); refine arr_dg.storeL r0 zer_length rfl hdN _ _ rfl rfl rfl ?_)
    | ((with_reducible refine at_load ?_); refine arr_dg.loadAtL g0 (by rfl) hdN _ rfl rfl ?_)
    | fail)
  exact ret_cell (v := dg d) Try.results18 rfl hret rfl ⟨rfl, bz⟩
set_option maxRecDepth 10000 in
set_option maxHeartbeats 4000000 in
theorem root_any : ∀ (n : Nat) (v : Value) (ds : List (List UInt8)) (w : World), ds.length ≤ n → n ≤ 1048576 → SlD w v ds →
    Calls Try.prog 18 #[v] w fun e w' => e = .returned (dg (rootL ds)) ∧ Below w.heap.size w w' := by
  intro n
  induction n with
  | zero =>
    intro v ds w hl _ hv
    have : ds = [] := List.eq_nil_of_length_eq_zero (by omega)
    subst this
    exact root_zero v w hv
  | succ n ih =>
    intro v ds w hl hn hv
    have r0 : RowT 29 (w.alloc (.cells (bs zer).toArray 29 (0, 0))) w.heap.size zer := heap_alloc_new _ _
    have b0 := ext_alloc w (.cells (bs zer).toArray 29 (0, 0))
    have hv0 := hv.below b0
    have hv1 := hv
    obtain ⟨⟨A, c, rfl, hc, hcm, hA, hrr⟩, h32⟩ := hv
    by_cases h1 : ds.length = 0
    · have : ds = [] := List.eq_nil_of_length_eq_zero h1
      subst this
      exact root_zero _ w hv1
    · by_cases h2 : ds.length = 1
      · exact root_one _ w h2 hv1
      · have hk := kOf_lt (n := ds.length) (by omega) (by omega)
        obtain ⟨e, he, hke, he20⟩ := kOf_exp ds.length (by omega) (by omega)
        have hrt := rootL_two (l := ds) (by omega) (by omega)
        generalize hkk : kOf ds.length = k at *
        have q1 : ((ds.length : Int) == 0) = false := by rw [beq_eq_false_iff_ne]; omega
        have q2 : ((ds.length : Int) == 1) = false := by rw [beq_eq_false_iff_ne]; omega
        have w1 : IntKind.i64.wrap ((ds.length : Int) - 1) = (ds.length : Int) - 1 := by rw [IntKind.wrap_i64]; omega
        have w2 : IntKind.u64.wrap ((ds.length : Int) - 1) = (ds.length : Int) - 1 := by rw [IntKind.wrap_u64]; omega
        have hln := fun w' => len_any ((ds.length : Int) - 1) w' (by omega) (by omega)
        have hbl : Lib.bitLen ((ds.length : Int) - 1).toNat = e + 1 := by rw [show ((ds.length : Int) - 1).toNat = ds.length - 1 by omega]; exact he
        rw [hbl] at hln
        go_enter Try.func18, Try.ntmps18
        go_wp2_with fail
        refine (hln _).mono ?_
        rintro e' w' ⟨rfl, rfl⟩
        have wk : RowKit.wrap64 ((2 : Int) ^ e) = (k : Int) := by
          have h1 : (2 : Int) ^ e = ((2 ^ e : Nat) : Int) := by simp
          have h2 := Nat.pow_le_pow_right (n := 2) (by omega) he20
          rw [h1, ← hke]; unfold RowKit.wrap64; rw [← hke] at h2; omega
        replace hke : Hid _ := hke
        clear he
        have g1 : (k : Int) ≤ c := by omega
        have g2 : (k : Int) ≤ ds.length := by omega
        have hL0 := hv0.slice 0 k (by omega) (by omega)
        simp only [List.drop_zero, Nat.sub_zero, slA_zero] at hL0
        replace hL0 := hL0.cap k (Nat.le_refl _) (by omega)
        have hR0 := hv0.slice k ds.length (by omega) (Nat.le_refl _)
        rw [List.take_of_length_le (by simp)] at hR0
        replace hkk : Hid _ := hkk
        replace hrt : Hid _ := hrt
        clear hln hbl hv0 hv1
        go_wp2_with fail
        rw [wk]
        clear wk hke he20 w1 w2 q1 q2 hrr hA hcm
        generalize hWW : World.alloc w _ = W
        have hW2 : w.alloc (.cells (bs zer).toArray 29 (0, 0)) = W := by rw [← hWW]; rfl
        rw [hW2] at r0 b0 hL0 hR0
        clear hWW hW2
        have fL := fun w' (h : Ext W w') => hL0.below h
        have fR := fun w' (h : Ext W w') => hR0.below h
        have fr := fun w' (h : Ext W w') => r0.below h
        have hdL := rootL_length ds.length (ds.take k) (by rw [List.length_take]; omega) (by omega) (h32.take k)
        have hdR := rootL_length ds.length (ds.drop k) (by rw [List.length_drop]; omega) (by omega) (h32.drop k)
        have hdN := nodeL_length (rootL (ds.take k)) (rootL (ds.drop k))
        have iL := fun v w' => ih v (ds.take k) w' (by rw [List.length_take]; omega) (by omega)
        have iR := fun v w' => ih v (ds.drop k) w' (by rw [List.length_drop]; omega) (by omega)
        replace hrt : rootL ds = nodeL (rootL (ds.take k)) (rootL (ds.drop k)) := hrt.out
        generalize rootL (ds.take k) = da at *
        generalize rootL (ds.drop k) = db at *
        have nd := fun w' => node_any da db hdL hdR w'
        generalize nodeL da db = dn at *
        have hcur : Below w.heap.size w W := b0
        have e0 := Ext.refl W
        replace hrt : Hid _ := hrt
        clear ih hL0 hR0
        refine wp_region_F 10 (by kernel_rfl) (fun hcl => ?_)
        replace hcur := below_via hcur (ext_drew _)
        replace e0 := Ext.trans e0 (ext_drew _)
        refine wpAnyF_take (fin := 10) (i := 0) (v := ?_) hcl (some 14) rfl rfl (by kernel_rfl) (by kernel_rfl) (by kernel_rfl) (fun _ _ _ h => h) (by kernel_rfl) ?_ (fun hcl => ?_)
        rotate_left 1
        · (refine Or.inl ⟨by rfl, ?_⟩; intro w' hw'; have hq := below_via hcur hw'; have hq_e0 := Ext.trans e0 hw'; (try go_simp); (try rfl); done)
        try simp only [Act.put, List.setIfInBounds_toArray, List.set_cons_zero, List.set_cons_succ]
        refine wpAnyF_take (fin := 10) (i := 1) (v := ?_) hcl (some 15) rfl rfl (by kernel_rfl) (by kernel_rfl) (by kernel_rfl) (fun _ _ _ h => h) (by kernel_rfl) ?_ (fun hcl => ?_)
        rotate_left 1
        · (refine Or.inl ⟨by rfl, ?_⟩; intro w' hw'; have hq := below_via hcur hw'; have hq_e0 := Ext.trans e0 hw'; (try go_simp); (try rfl); done)
        try simp only [Act.put, List.setIfInBounds_toArray, List.set_cons_zero, List.set_cons_succ]
        refine wpAnyF_take (fin := 10) (i := 2) (v := ?_) hcl (some 16) rfl rfl (by kernel_rfl) (by kernel_rfl) (by kernel_rfl) (fun _ _ _ h => h) (by kernel_rfl) ?_ (fun hcl => ?_)
        rotate_left 1
        · (refine Or.inl ⟨by rfl, ?_⟩; intro w' hw'; have hq := below_via hcur hw'; have hq_e0 := Ext.trans e0 hw'; (try go_simp); (try rfl); done)
        try simp only [Act.put, List.setIfInBounds_toArray, List.set_cons_zero, List.set_cons_succ]
        refine wpAnyF_take (fin := 10) (i := 3) (v := ?_) hcl (some 17) rfl rfl (by kernel_rfl) (by kernel_rfl) (by kernel_rfl) (fun _ _ _ h => h) (by kernel_rfl) ?_ (fun hcl => ?_)
        rotate_left 1
        · (refine Or.inl ⟨by rfl, ?_⟩; intro w' hw'; have hq := below_via hcur hw'; have hq_e0 := Ext.trans e0 hw'; (try go_simp); (try rfl); done)
        try simp only [Act.put, List.setIfInBounds_toArray, List.set_cons_zero, List.set_cons_succ]
        refine wpAnyF_take (fin := 10) (i := 5) (v := ?_) hcl (some 19) rfl rfl (by kernel_rfl) (by kernel_rfl) (by kernel_rfl) (fun _ _ _ h => h) (by kernel_rfl) ?_ (fun hcl => ?_)
        rotate_left 1
        · (refine Or.inl ⟨by rfl, ?_⟩; intro w' hw'; have hq := below_via hcur hw'; have hq_e0 := Ext.trans e0 hw'; (try go_simp); (try rfl); done)
        try simp only [Act.put, List.setIfInBounds_toArray, List.set_cons_zero, List.set_cons_succ]
        refine wpAnyF_take (fin := 10) (i := 6) (v := ?_) hcl (some 20) rfl rfl (by kernel_rfl) (by kernel_rfl) (by kernel_rfl) (fun _ _ _ h => h) (by kernel_rfl) ?_ (fun hcl => ?_)
        rotate_left 1
        · (refine Or.inl ⟨by rfl, ?_⟩; intro w' hw'; have hq := below_via hcur hw'; have hq_e0 := Ext.trans e0 hw'; (try go_simp); (try rfl); done)
        try simp only [Act.put, List.setIfInBounds_toArray, List.set_cons_zero, List.set_cons_succ]
        refine wpAnyF_take (fin := 10) (i := 7) (v := ?_) hcl (some 21) rfl rfl (by kernel_rfl) (by kernel_rfl) (by kernel_rfl) (fun _ _ _ h => h) (by kernel_rfl) ?_ (fun hcl => ?_)
        rotate_left 1
        · (refine Or.inl ⟨by rfl, ?_⟩; intro w' hw'; have hq := below_via hcur hw'; have hq_e0 := Ext.trans e0 hw'; (try go_simp); (try rfl); done)
        try simp only [Act.put, List.setIfInBounds_toArray, List.set_cons_zero, List.set_cons_succ]
        refine wpAnyF_one (fin := 10) (i := 4) hcl rfl (by kernel_rfl) (by rfl) (fun hcl K hK => ?_)
        go_simp
        (with_reducible refine (iL _ _ (fL _ e0)).mono ?_); rintro e w5 ⟨rfl, hb⟩
        refine hK.out _ _ hb ?_
        replace hcur := below_via hcur hb; clear hK K
        replace e0 := Ext.trans e0 hb
        try simp only [Act.put, List.setIfInBounds_toArray, List.set_cons_zero, List.set_cons_succ]
        refine wpAnyF_one (fin := 10) (i := 8) hcl rfl (by kernel_rfl) (by rfl) (fun hcl K hK => ?_)
        go_simp
        (with_reducible refine (iR _ _ (fR _ e0)).mono ?_); rintro e w6 ⟨rfl, hb⟩
        refine hK.out _ _ hb ?_
        replace hcur := below_via hcur hb; clear hK K
        replace e0 := Ext.trans e0 hb
        try simp only [Act.put, List.setIfInBounds_toArray, List.set_cons_zero, List.set_cons_succ]
        refine wpAnyF_one (fin := 10) (i := 9) hcl rfl (by kernel_rfl) (by rfl) (fun hcl K hK => ?_)
        go_simp
        (with_reducible refine (nd _).mono ?_); rintro e w7 ⟨rfl, hb⟩
        refine hK.out _ _ hb ?_
        replace hcur := below_via hcur hb; clear hK K
        replace e0 := Ext.trans e0 hb
        try simp only [Act.put, List.setIfInBounds_toArray, List.set_cons_zero, List.set_cons_succ]
        refine wpAnyF_last (fin := 10) rfl (by kernel_rfl) (by kernel_rfl) (by rfl) (fun K hK => ?_)
        have r9 := fr _ e0
        refine arr_dg.store r9 zer_length hdN _ _ rfl rfl rfl ?_
        refine hK.out _ _ ?_
        clear hK K hcl
        have hret := arr_dg.loadVar (r9.setRow dn) hdN
        have bz := below_setRow hcur (Nat.le_refl _) (bs dn).toArray
        go_wp2_with fail
        refine ret_cell (v := dg dn) Try.results18 ?_ hret ?_ ?_
        · rfl
        · rfl
        · exact ⟨by rw [hrt.out], bz⟩
end Go.Proofs.Ytcaaeimcieooiaa
