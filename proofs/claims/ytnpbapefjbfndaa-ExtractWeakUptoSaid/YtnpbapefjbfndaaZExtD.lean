/- Text and Root of the reference (walks). -/
import Derived.Test.YtnpbapefjbfndaaZExtC
set_option linter.unusedVariables false
set_option linter.unusedSimpArgs false
set_option maxRecDepth 10000
namespace Go.Proofs.Ytnpbapefjbfndaa
open Go.RowKit
attribute [local go_sem high] dg_cells guard_dg rs_l rs_lh rs_lhm rs_h rs_hm rs_all

set_option maxHeartbeats 4000000 in
theorem rroot_of {k : Nat} {v : Value} {xs : List UInt8} (w : World) (hk : k ≤ 256) (hxl : xs.length ≤ 1073741824)
    (ht : ∀ w', Ext w w' → Calls Try.prog 33 #[.int .i64 k, v] w' fun e w'' => ∃ v', e = .returned v' ∧ SlB w'' v' xs ∧ Below w'.heap.size w' w'') :
    Calls Try.prog 16 #[.int .i64 k, v] w fun e w' => e = .returned (dg (hashL k xs)) ∧ Below w.heap.size w w' := by
  have r0 : RowT 38 (w.alloc (.cells (bs zer).toArray 38 (0, 0))) w.heap.size zer := heap_alloc_new _ _
  have b0 := ext_alloc w (.cells (bs zer).toArray 38 (0, 0))
  have t1 := ht _ b0
  have hdl := hashL_length k xs
  clear ht
  go_enter Try.func16, Try.ntmps16
  go_wp2_with fail
  refine t1.mono ?_
  rintro e w2 ⟨v2, rfl, s2, b2⟩
  have r2 := r0.below b2
  have bw := Ext.trans b0 b2
  have hh := rhash_any k v2 xs w2 s2 hxl hk
  generalize hdd : hashL k xs = hd at *
  replace hdd : Hid _ := hdd
  clear r0 b0 b2 s2
  go_wp2_with fail
  refine hh.mono ?_
  rintro e w3 ⟨rfl, b3⟩
  have r3 := r2.below b3
  have bw3 := Ext.trans bw b3
  have hret := arr_dg.loadVar (r3.setRow hd) hdl
  have bz := below_setRow bw3 (Nat.le_refl _) (bs hd).toArray
  go_wp2_with ((with_reducible refine at_store ?_); refine arr_dg.storeL r3 zer_length rfl hdl _ _ rfl rfl rfl ?_)
  exact ret_cell (v := dg hd) Try.results16 rfl hret rfl ⟨by rw [hdd.out], bz⟩
set_option maxHeartbeats 4000000 in
theorem rtext_zero_own (k : Nat) (v : Value) (w : World) (hv0 : SlX w v []) :
    Calls Try.prog 33 #[.int .i64 k, v] w fun e w' => ∃ v', e = .returned v' ∧ OwB 0 w' v' [] ∧ Below w.heap.size w w' := by
  obtain ⟨A, c, rfl, hc, hcm⟩ := hv0.len
  go_enter Try.func33, Try.ntmps33
  go_wp2_with fail
  go_ret
  exact ⟨_, rfl, OwB.nil _ _, Below.refl _ _⟩
set_option maxHeartbeats 4000000 in
theorem rtext_one_own (k : Nat) (v : Value) (x : List UInt8) (w : World) (hv0 : SlX w v [x]) (hl : x.length ≤ 1073741824) :
    Calls Try.prog 33 #[.int .i64 k, v] w fun e w' => ∃ v', e = .returned v' ∧ OwB 0 w' v' (0 :: x) ∧ Below w.heap.size w w' := by
  obtain ⟨A, c, rfl, hc, hcm⟩ := hv0.len
  obtain ⟨ad, u, rfl, hcell, hu, hone⟩ := hv0.get (k := 0) (by simp)
  obtain ⟨A5, c5, rfl, _⟩ := id hu
  rw [show ad.add 0 = ad by cases ad; simp [Addr.add]] at hcell
  have hj := rleaf_own _ x w hu (by omega)
  clear hu
  go_enter Try.func33, Try.ntmps33
  go_wp2_with fail
  refine hj.mono ?_
  rintro e w2 ⟨v2, rfl, s2, b2⟩
  go_wp2_with fail
  go_ret
  exact ⟨_, rfl, s2, b2⟩
set_option maxHeartbeats 4000000 in
theorem rtext_own (k : Nat) (hk : k ≤ 256) : ∀ (n : Nat) (v : Value) (zs : List (List UInt8)) (w : World), zs.length ≤ n → n ≤ 1048576 → (∀ z ∈ zs, z.length ≤ 1048576) → SlX w v zs →
    Calls Try.prog 33 #[.int .i64 k, v] w fun e w' => ∃ v', e = .returned v' ∧ OwB 0 w' v' (textL k zs) ∧ Below w.heap.size w w' := by
  intro n
  induction n with
  | zero =>
    intro v zs w hl _ _ hv0
    have : zs = [] := List.eq_nil_of_length_eq_zero (by omega)
    subst this
    exact rtext_zero_own k v w hv0
  | succ n ih =>
    intro v zs w hl hn hz hv0
    by_cases h1 : zs.length = 0
    · have : zs = [] := List.eq_nil_of_length_eq_zero h1
      subst this
      exact rtext_zero_own k v w hv0
    · by_cases h2 : zs.length = 1
      · obtain ⟨x, rfl⟩ : ∃ x, zs = [x] := by
          match zs, h2 with
          | [x], _ => exact ⟨x, rfl⟩
        exact rtext_one_own k v x w hv0 (by have := hz x (by simp); omega)
      · have hkl := kOf_lt (n := zs.length) (by omega) (by omega)
        have htt := textL_two (k := k) (l := zs) (by omega) (by omega)
        have hh := fun w' => rhalf_any zs.length w' (by omega) (by omega)
        generalize hjj : kOf zs.length = j at *
        have q1 : ((zs.length : Int) == 0) = false := by rw [beq_eq_false_iff_ne]; omega
        have q2 : ((zs.length : Int) == 1) = false := by rw [beq_eq_false_iff_ne]; omega
        obtain ⟨A, c, rfl, hc, hcm⟩ := hv0.len
        have g1 : (j : Int) ≤ c := by omega
        have g2 : (j : Int) ≤ zs.length := by omega
        have hL0 := hv0.slice 0 j (by omega) (by omega)
        simp only [List.drop_zero, Nat.sub_zero, slA_zero] at hL0
        have hR0 := hv0.slice j zs.length (by omega) (Nat.le_refl _)
        rw [List.take_of_length_le (by simp)] at hR0
        have tl : (textL k (zs.take j)).length ≤ 1073741824 := by have := textL_length (k := k) (m := 1048576) (zs.take j) (by rw [List.length_take]; omega) (fun x hx => hz x (List.mem_of_mem_take hx)); omega
        have tr : (textL k (zs.drop j)).length ≤ 1073741824 := by have := textL_length (k := k) (m := 1048576) (zs.drop j) (by rw [List.length_drop]; omega) (fun x hx => hz x (List.mem_of_mem_drop hx)); omega
        have iL := fun w' (h : Ext w w') => rroot_of (v := .slice A j c) w' hk tl fun w'' h' => own_sl <| ih _ (zs.take j) w'' (by rw [List.length_take]; omega) (by omega) (fun x hx => hz x (List.mem_of_mem_take hx)) (hL0.below (Ext.trans h h'))
        have iR := fun w' (h : Ext w w') => rroot_of (v := .slice (slA A j c 1) (zs.length - j) (c - j)) w' hk tr fun w'' h' => own_sl <| ih _ (zs.drop j) w'' (by rw [List.length_drop]; omega) (by omega) (fun x hx => hz x (List.mem_of_mem_drop hx)) (hR0.below (Ext.trans h h'))
        have dl := hashL_length k (textL k (zs.take j))
        have dr := hashL_length k (textL k (zs.drop j))
        unfold rootX at htt
        generalize hashL k (textL k (zs.take j)) = da at *
        generalize hashL k (textL k (zs.drop j)) = db at *
        have nd := fun w' => rnode_own da db dl dr w'
        replace hjj : Hid _ := hjj
        replace htt : Hid _ := htt
        clear ih hL0 hR0 tl tr hv0 hz
        go_enter Try.func33, Try.ntmps33
        go_wp2_with fail
        refine (hh _).mono ?_
        rintro e w' ⟨rfl, rfl⟩
        go_wp2_with fail
        have hcur : Below w.heap.size w w := Below.refl _ _
        have e0 := Ext.refl w
        refine wp_region_E (by kernel_rfl) ?_
        replace hcur := below_via hcur (ext_drew _)
        replace e0 := Ext.trans e0 (ext_drew _)
        refine wpAnyE_take (i := 0) (v := ?_) (some 19) rfl rfl (by kernel_rfl) (by kernel_rfl) (by kernel_rfl) (fun _ _ _ h => h) ?_ ?_
        rotate_left 1
        · (refine Or.inl ⟨by rfl, ?_⟩; intro w' hw'; have hq := below_via hcur hw'; have hq_e0 := Ext.trans e0 hw'; (try go_simp); (try rfl); done)
        try simp only [Act.put, List.setIfInBounds_toArray, List.set_cons_zero, List.set_cons_succ]
        refine wpAnyE_take (i := 1) (v := ?_) (some 20) rfl rfl (by kernel_rfl) (by kernel_rfl) (by kernel_rfl) (fun _ _ _ h => h) ?_ ?_
        rotate_left 1
        · (refine Or.inl ⟨by rfl, ?_⟩; intro w' hw'; have hq := below_via hcur hw'; have hq_e0 := Ext.trans e0 hw'; (try go_simp); (try rfl); done)
        try simp only [Act.put, List.setIfInBounds_toArray, List.set_cons_zero, List.set_cons_succ]
        refine wpAnyE_take (i := 2) (v := ?_) (some 21) rfl rfl (by kernel_rfl) (by kernel_rfl) (by kernel_rfl) (fun _ _ _ h => h) ?_ ?_
        rotate_left 1
        · (refine Or.inl ⟨by rfl, ?_⟩; intro w' hw'; have hq := below_via hcur hw'; have hq_e0 := Ext.trans e0 hw'; (try go_simp); (try rfl); done)
        try simp only [Act.put, List.setIfInBounds_toArray, List.set_cons_zero, List.set_cons_succ]
        refine wpAnyE_take (i := 3) (v := ?_) (some 22) rfl rfl (by kernel_rfl) (by kernel_rfl) (by kernel_rfl) (fun _ _ _ h => h) ?_ ?_
        rotate_left 1
        · (refine Or.inl ⟨by rfl, ?_⟩; intro w' hw'; have hq := below_via hcur hw'; have hq_e0 := Ext.trans e0 hw'; (try go_simp); (try rfl); done)
        try simp only [Act.put, List.setIfInBounds_toArray, List.set_cons_zero, List.set_cons_succ]
        refine wpAnyE_take (i := 5) (v := ?_) (some 24) rfl rfl (by kernel_rfl) (by kernel_rfl) (by kernel_rfl) (fun _ _ _ h => h) ?_ ?_
        rotate_left 1
        · (refine Or.inl ⟨by rfl, ?_⟩; intro w' hw'; have hq := below_via hcur hw'; have hq_e0 := Ext.trans e0 hw'; (try go_simp); (try rfl); done)
        try simp only [Act.put, List.setIfInBounds_toArray, List.set_cons_zero, List.set_cons_succ]
        refine wpAnyE_take (i := 6) (v := ?_) (some 25) rfl rfl (by kernel_rfl) (by kernel_rfl) (by kernel_rfl) (fun _ _ _ h => h) ?_ ?_
        rotate_left 1
        · (refine Or.inl ⟨by rfl, ?_⟩; intro w' hw'; have hq := below_via hcur hw'; have hq_e0 := Ext.trans e0 hw'; (try go_simp); (try rfl); done)
        try simp only [Act.put, List.setIfInBounds_toArray, List.set_cons_zero, List.set_cons_succ]
        refine wpAnyE_take (i := 7) (v := ?_) (some 26) rfl rfl (by kernel_rfl) (by kernel_rfl) (by kernel_rfl) (fun _ _ _ h => h) ?_ ?_
        rotate_left 1
        · (refine Or.inl ⟨by rfl, ?_⟩; intro w' hw'; have hq := below_via hcur hw'; have hq_e0 := Ext.trans e0 hw'; (try go_simp); (try rfl); done)
        try simp only [Act.put, List.setIfInBounds_toArray, List.set_cons_zero, List.set_cons_succ]
        refine wpAnyE_take (i := 8) (v := ?_) (some 27) rfl rfl (by kernel_rfl) (by kernel_rfl) (by kernel_rfl) (fun _ _ _ h => h) ?_ ?_
        rotate_left 1
        · (refine Or.inl ⟨by rfl, ?_⟩; intro w' hw'; have hq := below_via hcur hw'; have hq_e0 := Ext.trans e0 hw'; (try go_simp); (try rfl); done)
        try simp only [Act.put, List.setIfInBounds_toArray, List.set_cons_zero, List.set_cons_succ]
        refine wpAnyE_one (i := 4) rfl (by kernel_rfl) (by rfl) (fun K hK => ?_)
        go_simp
        (with_reducible refine (iL _ e0).mono ?_); rintro e w5 ⟨rfl, hb⟩
        refine hK.out _ _ hb ?_
        replace hcur := below_via hcur hb; clear hK K
        replace e0 := Ext.trans e0 hb
        try simp only [Act.put, List.setIfInBounds_toArray, List.set_cons_zero, List.set_cons_succ]
        refine wpAnyE_one (i := 9) rfl (by kernel_rfl) (by rfl) (fun K hK => ?_)
        go_simp
        (with_reducible refine (iR _ e0).mono ?_); rintro e w6 ⟨rfl, hb⟩
        refine hK.out _ _ hb ?_
        replace hcur := below_via hcur hb; clear hK K
        replace e0 := Ext.trans e0 hb
        try simp only [Act.put, List.setIfInBounds_toArray, List.set_cons_zero, List.set_cons_succ]
        refine wpAnyE_one (i := 10) rfl (by kernel_rfl) (by rfl) (fun K hK => ?_)
        go_simp
        (with_reducible refine (nd _).mono ?_); rintro e w7 ⟨v7, rfl, s7, hb⟩
        refine hK.out _ _ hb ?_
        replace hcur := below_via hcur hb; clear hK K
        replace e0 := Ext.trans e0 hb
        try simp only [Act.put, List.setIfInBounds_toArray, List.set_cons_zero, List.set_cons_succ]
        refine wpAnyE_take (i := 11) (v := ?_) (some 4) rfl rfl (by kernel_rfl) (by kernel_rfl) (by kernel_rfl) (fun _ _ _ h => h) ?_ ?_
        rotate_left 1
        · (refine Or.inl ⟨by rfl, ?_⟩; intro w' hw'; have hq := below_via hcur hw'; have hq_e0 := Ext.trans e0 hw'; (try go_simp); (try rfl); done)
        try simp only [Act.put, List.setIfInBounds_toArray, List.set_cons_zero, List.set_cons_succ]
        refine wpAnyE_done (by kernel_rfl) ?_ _
        go_wp2_with fail
        go_ret
        exact ⟨v7, rfl, by rw [htt.out]; exact s7, hcur⟩
theorem rtext_any (k : Nat) (hk : k ≤ 256) (n : Nat) (v : Value) (zs : List (List UInt8)) (w : World) (h1 : zs.length ≤ n) (h2 : n ≤ 1048576) (h3 : ∀ z ∈ zs, z.length ≤ 1048576) (h4 : SlX w v zs) :
    Calls Try.prog 33 #[.int .i64 k, v] w fun e w' => ∃ v', e = .returned v' ∧ SlB w' v' (textL k zs) ∧ Below w.heap.size w w' := own_sl (rtext_own k hk n v zs w h1 h2 h3 h4)
theorem rroot_any (k : Nat) (hk : k ≤ 256) (v : Value) (zs : List (List UInt8)) (w : World) (hl : zs.length ≤ 1048576) (hz : ∀ z ∈ zs, z.length ≤ 1048576) (hv0 : SlX w v zs) :
    Calls Try.prog 16 #[.int .i64 k, v] w fun e w' => e = .returned (dg (rootX k zs)) ∧ Below w.heap.size w w' :=
  rroot_of w hk (by have := textL_length (k := k) (m := 1048576) zs (by omega) hz; omega) fun w' h => rtext_any k hk 1048576 v zs w' hl (Nat.le_refl _) hz (hv0.below h)

end Go.Proofs.Ytnpbapefjbfndaa
