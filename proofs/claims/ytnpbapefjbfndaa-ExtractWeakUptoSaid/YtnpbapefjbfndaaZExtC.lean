/- text and Root (walks). -/
import Derived.Test.YtnpbapefjbfndaaZXj
set_option linter.unusedVariables false
set_option linter.unusedSimpArgs false
set_option maxRecDepth 10000
namespace Go.Proofs.Ytnpbapefjbfndaa
open Go.RowKit
attribute [local go_sem high] dg_cells guard_dg rs_l rs_lh rs_lhm rs_h rs_hm rs_all

theorem hv_eql (g : Nat) (w : World) : (binOp .eql 26 (.func (.func 27) #[] #[.pointer (some ⟨g, 0, none⟩)]) .nilFunc).run Try.prog w = .ok (.bool false) w := by kernel_rfl
theorem hv_neq (g : Nat) (w : World) : (binOp .neq 26 (.func (.func 27) #[] #[.pointer (some ⟨g, 0, none⟩)]) .nilFunc).run Try.prog w = .ok (.bool true) w := by kernel_rfl
set_option maxHeartbeats 4000000 in
theorem root_of {g k : Nat} {v : Value} {xs : List UInt8} (w : World) (hk : k ≤ 256) (hxl : xs.length ≤ 1073741824) (hg : HvAt w g k)
    (ht : ∀ w', Ext w w' → Calls Try.prog 30 #[hv g, v] w' fun e w'' => ∃ v', e = .returned v' ∧ SlB w'' v' xs ∧ Below w'.heap.size w' w'') :
    Calls Try.prog 15 #[hv g, v] w fun e w' => e = .returned (dg (hashL k xs)) ∧ Below w.heap.size w w' := by
  have r0 : RowT 38 (w.alloc (.cells (bs zer).toArray 38 (0, 0))) w.heap.size zer := heap_alloc_new _ _
  have b0 := ext_alloc w (.cells (bs zer).toArray 38 (0, 0))
  have t1 := ht _ b0
  have hg1 := hg.below b0
  have hdl := hashL_length k xs
  have q1 := hv_eql g
  clear ht hg
  unfold hv at *
  go_enter Try.func15, Try.ntmps15
  go_wp2_with fail
  refine t1.mono ?_
  rintro e w2 ⟨v2, rfl, s2, b2⟩
  have hg2 := hg1.below b2
  have r2 := r0.below b2
  have bw := Ext.trans b0 b2
  have hh := hash1_any g k v2 xs w2 s2 hxl hk hg2
  generalize hdd : hashL k xs = hd at *
  replace hdd : Hid _ := hdd
  clear r0 b0 hg1 b2 s2
  go_wp2_with fail
  refine hh.mono ?_
  rintro e w3 ⟨rfl, b3⟩
  have r3 := r2.below b3
  have bw3 := Ext.trans bw b3
  have hret := arr_dg.loadVar (r3.setRow hd) hdl
  have bz := below_setRow bw3 (Nat.le_refl _) (bs hd).toArray
  go_wp2_with ((with_reducible refine at_store ?_); refine arr_dg.storeL r3 zer_length rfl hdl _ _ rfl rfl rfl ?_)
  exact ret_cell (v := dg hd) Try.results15 rfl hret rfl ⟨by rw [hdd.out], bz⟩
set_option maxHeartbeats 4000000 in
theorem text_zero_own (g : Nat) (v : Value) (w : World) (hv0 : SlX w v []) :
    Calls Try.prog 30 #[hv g, v] w fun e w' => ∃ v', e = .returned v' ∧ OwB 0 w' v' [] ∧ Below w.heap.size w w' := by
  obtain ⟨A, c, rfl, hc, hcm⟩ := hv0.len
  unfold hv
  go_enter Try.func30, Try.ntmps30
  go_wp2_with fail
  go_ret
  exact ⟨_, rfl, OwB.nil _ _, Below.refl _ _⟩
theorem one_part {w : World} {u : Value} {x : List UInt8} (h : SlB w u x) : SlX (w.alloc (.cells #[u] 23)) (.slice (some ⟨w.heap.size, 0, none⟩) 1 1) [x] :=
  ⟨[u], ⟨_, _, rfl, by simp, by simp, by simp, rc_new w [u] _⟩, rfl, fun i u' x' hu hx => by
    match i, hu, hx with
    | 0, hu, hx => cases hu; cases hx; exact h.below (ext_alloc _ _)⟩
theorem joined_leaf_own {W : World} {B : Nat} {x : List UInt8} (hl : x.length ≤ 1073741824) (h : SlX W (.slice (some ⟨B, 0, none⟩) 1 1) [x]) :
    Calls Try.prog 38 #[.int .u8 0, .slice (some ⟨B, 0, none⟩) 1 1] W fun e w' => ∃ v', e = .returned v' ∧ OwB 0 w' v' (0 :: x) ∧ Below W.heap.size W w' :=
  joined_own 0 _ x W (by omega) fun w' h' => (join_any B 1 1 [x] w' (h.below h') (by simp) (by simp [Lib.lens]; omega) (by simp)).mono (by rintro e w'' ⟨v', rfl, h, k⟩; exact ⟨v', rfl, by simpa using h, k⟩)
set_option maxHeartbeats 4000000 in
theorem text_one_own (g k : Nat) (v : Value) (x : List UInt8) (w : World) (hv0 : SlX w v [x]) (hl : x.length ≤ 1073741824) :
    Calls Try.prog 30 #[hv g, v] w fun e w' => ∃ v', e = .returned v' ∧ OwB 0 w' v' (0 :: x) ∧ Below w.heap.size w w' := by
  obtain ⟨A, c, rfl, hc, hcm⟩ := hv0.len
  obtain ⟨ad, u, rfl, hcell, hu, hone⟩ := hv0.get (k := 0) (by simp)
  obtain ⟨A5, c5, rfl, _⟩ := id hu
  rw [show ad.add 0 = ad by cases ad; simp [Addr.add]] at hcell
  have e1 := ext_alloc w (.cells #[.slice A5 x.length c5] 23)
  have hj := joined_leaf_own hl (one_part hu)
  clear hu
  unfold hv
  go_enter Try.func30, Try.ntmps30
  go_wp2_with fail
  refine hj.mono ?_
  rintro e w2 ⟨v2, rfl, s2, b2⟩
  go_wp2_with fail
  go_ret
  exact ⟨_, rfl, s2, Ext.trans e1 b2⟩
set_option maxHeartbeats 4000000 in
theorem text_own (g k : Nat) (hk : k ≤ 256) : ∀ (n : Nat) (v : Value) (zs : List (List UInt8)) (w : World), zs.length ≤ n → n ≤ 1048576 → (∀ z ∈ zs, z.length ≤ 1048576) → SlX w v zs → HvAt w g k →
    Calls Try.prog 30 #[hv g, v] w fun e w' => ∃ v', e = .returned v' ∧ OwB 0 w' v' (textL k zs) ∧ Below w.heap.size w w' := by
  intro n
  induction n with
  | zero =>
    intro v zs w hl _ _ hv0 _
    have : zs = [] := List.eq_nil_of_length_eq_zero (by omega)
    subst this
    exact text_zero_own g v w hv0
  | succ n ih =>
    intro v zs w hl hn hz hv0 hg
    by_cases h1 : zs.length = 0
    · have : zs = [] := List.eq_nil_of_length_eq_zero h1
      subst this
      exact text_zero_own g v w hv0
    · by_cases h2 : zs.length = 1
      · obtain ⟨x, rfl⟩ : ∃ x, zs = [x] := by
          match zs, h2 with
          | [x], _ => exact ⟨x, rfl⟩
        exact text_one_own g k v x w hv0 (by have := hz x (by simp); omega)
      · have hkl := kOf_lt (n := zs.length) (by omega) (by omega)
        have htt := textL_two (k := k) (l := zs) (by omega) (by omega)
        have hh := fun w' => half_any zs.length w' (by omega) (by omega)
        generalize hjj : kOf zs.length = j at *
        have q1 : ((zs.length : Int) == 0) = false := by rw [beq_eq_false_iff_ne]; omega
        have q2 : ((zs.length : Int) == 1) = false := by rw [beq_eq_false_iff_ne]; omega
        obtain ⟨A, c, rfl, hc, hcm⟩ := hv0.len
        have g1 : (j : Int) ≤ c := by omega
        have g2 : (j : Int) ≤ zs.length := by omega
        have hL0 := hv0.slice 0 j (by omega) (by omega)
        simp only [List.drop_zero, Nat.sub_zero, slA_zero] at hL0
        have hR0 := hv0.slice j zs.length (by omega) (Nat.le_refl _)
        rw [List.take_of_length_le (by simp)] at hR0
        have tl : (textL k (zs.take j)).length ≤ 1073741824 := by have := textL_length (k := k) (m := 1048576) (zs.take j) (by rw [List.length_take]; omega) (fun x hx => hz x (List.mem_of_mem_take hx)); omega
        have tr : (textL k (zs.drop j)).length ≤ 1073741824 := by have := textL_length (k := k) (m := 1048576) (zs.drop j) (by rw [List.length_drop]; omega) (fun x hx => hz x (List.mem_of_mem_drop hx)); omega
        have fg := fun w' (h : Ext w w') => hg.below h
        have iL := fun w' (h : Ext w w') => root_of (v := .slice A j c) w' hk tl (fg w' h) fun w'' h' => own_sl <| ih _ (zs.take j) w'' (by rw [List.length_take]; omega) (by omega) (fun x hx => hz x (List.mem_of_mem_take hx)) (hL0.below (Ext.trans h h')) (fg w'' (Ext.trans h h'))
        have iR := fun w' (h : Ext w w') => root_of (v := .slice (slA A j c 1) (zs.length - j) (c - j)) w' hk tr (fg w' h) fun w'' h' => own_sl <| ih _ (zs.drop j) w'' (by rw [List.length_drop]; omega) (by omega) (fun x hx => hz x (List.mem_of_mem_drop hx)) (hR0.below (Ext.trans h h')) (fg w'' (Ext.trans h h'))
        have dl := hashL_length k (textL k (zs.take j))
        have dr := hashL_length k (textL k (zs.drop j))
        unfold rootX at htt
        generalize hashL k (textL k (zs.take j)) = da at *
        generalize hashL k (textL k (zs.drop j)) = db at *
        have nd := fun w' => node_own da db dl dr w'
        replace hjj : Hid _ := hjj
        replace htt : Hid _ := htt
        clear ih hL0 hR0 tl tr fg hv0 hg hz
        unfold hv at *
        go_enter Try.func30, Try.ntmps30
        go_wp2_with fail
        refine (hh _).mono ?_
        rintro e w' ⟨rfl, rfl⟩
        go_wp2_with fail
        have hcur : Below w.heap.size w w := Below.refl _ _
        have e0 := Ext.refl w
        refine wp_region_E (by kernel_rfl) ?_
        replace hcur := below_via hcur (ext_drew _)
        replace e0 := Ext.trans e0 (ext_drew _)
        refine wpAnyE_take (i := 0) (v := ?_) (some 12) rfl rfl (by kernel_rfl) (by kernel_rfl) (by kernel_rfl) (fun _ _ _ h => h) ?_ ?_
        rotate_left 1
        · (refine Or.inl ⟨by rfl, ?_⟩; intro w' hw'; have hq := below_via hcur hw'; have hq_e0 := Ext.trans e0 hw'; (try go_simp); (try rfl); done)
        try simp only [Act.put, List.setIfInBounds_toArray, List.set_cons_zero, List.set_cons_succ]
        refine wpAnyE_take (i := 1) (v := ?_) (some 13) rfl rfl (by kernel_rfl) (by kernel_rfl) (by kernel_rfl) (fun _ _ _ h => h) ?_ ?_
        rotate_left 1
        · (refine Or.inl ⟨by rfl, ?_⟩; intro w' hw'; have hq := below_via hcur hw'; have hq_e0 := Ext.trans e0 hw'; (try go_simp); (try rfl); done)
        try simp only [Act.put, List.setIfInBounds_toArray, List.set_cons_zero, List.set_cons_succ]
        refine wpAnyE_take (i := 2) (v := ?_) (some 14) rfl rfl (by kernel_rfl) (by kernel_rfl) (by kernel_rfl) (fun _ _ _ h => h) ?_ ?_
        rotate_left 1
        · (refine Or.inl ⟨by rfl, ?_⟩; intro w' hw'; have hq := below_via hcur hw'; have hq_e0 := Ext.trans e0 hw'; (try go_simp); (try rfl); done)
        try simp only [Act.put, List.setIfInBounds_toArray, List.set_cons_zero, List.set_cons_succ]
        refine wpAnyE_take (i := 3) (v := ?_) (some 15) rfl rfl (by kernel_rfl) (by kernel_rfl) (by kernel_rfl) (fun _ _ _ h => h) ?_ ?_
        rotate_left 1
        · (refine Or.inl ⟨by rfl, ?_⟩; intro w' hw'; have hq := below_via hcur hw'; have hq_e0 := Ext.trans e0 hw'; (try go_simp); (try rfl); done)
        try simp only [Act.put, List.setIfInBounds_toArray, List.set_cons_zero, List.set_cons_succ]
        refine wpAnyE_take (i := 5) (v := ?_) (some 17) rfl rfl (by kernel_rfl) (by kernel_rfl) (by kernel_rfl) (fun _ _ _ h => h) ?_ ?_
        rotate_left 1
        · (refine Or.inl ⟨by rfl, ?_⟩; intro w' hw'; have hq := below_via hcur hw'; have hq_e0 := Ext.trans e0 hw'; (try go_simp); (try rfl); done)
        try simp only [Act.put, List.setIfInBounds_toArray, List.set_cons_zero, List.set_cons_succ]
        refine wpAnyE_take (i := 6) (v := ?_) (some 18) rfl rfl (by kernel_rfl) (by kernel_rfl) (by kernel_rfl) (fun _ _ _ h => h) ?_ ?_
        rotate_left 1
        · (refine Or.inl ⟨by rfl, ?_⟩; intro w' hw'; have hq := below_via hcur hw'; have hq_e0 := Ext.trans e0 hw'; (try go_simp); (try rfl); done)
        try simp only [Act.put, List.setIfInBounds_toArray, List.set_cons_zero, List.set_cons_succ]
        refine wpAnyE_take (i := 7) (v := ?_) (some 19) rfl rfl (by kernel_rfl) (by kernel_rfl) (by kernel_rfl) (fun _ _ _ h => h) ?_ ?_
        rotate_left 1
        · (refine Or.inl ⟨by rfl, ?_⟩; intro w' hw'; have hq := below_via hcur hw'; have hq_e0 := Ext.trans e0 hw'; (try go_simp); (try rfl); done)
        try simp only [Act.put, List.setIfInBounds_toArray, List.set_cons_zero, List.set_cons_succ]
        refine wpAnyE_take (i := 8) (v := ?_) (some 20) rfl rfl (by kernel_rfl) (by kernel_rfl) (by kernel_rfl) (fun _ _ _ h => h) ?_ ?_
        rotate_left 1
        · (refine Or.inl ⟨by rfl, ?_⟩; intro w' hw'; have hq := below_via hcur hw'; have hq_e0 := Ext.trans e0 hw'; (try go_simp); (try rfl); done)
        try simp only [Act.put, List.setIfInBounds_toArray, List.set_cons_zero, List.set_cons_succ]
        refine wpAnyE_one (i := 4) rfl (by kernel_rfl) (by rfl) (fun K hK => ?_)
        go_simp
        (with_reducible refine (iL _ e0).mono ?_); rintro e w5 ⟨rfl, hb⟩
        refine hK.out _ _ hb ?_
        replace hcur := below_via hcur hb; clear hK K
        replace e0 := Ext.trans e0 hb
        try simp only [Act.put, List.setIfInBounds_toArray, List.set_cons_zero, List.set_cons_succ]
        refine wpAnyE_one (i := 9) rfl (by kernel_rfl) (by rfl) (fun K hK => ?_)
        go_simp
        (with_reducible refine (iR _ e0).mono ?_); rintro e w6 ⟨rfl, hb⟩
        refine hK.out _ _ hb ?_
        replace hcur := below_via hcur hb; clear hK K
        replace e0 := Ext.trans e0 hb
        try simp only [Act.put, List.setIfInBounds_toArray, List.set_cons_zero, List.set_cons_succ]
        refine wpAnyE_one (i := 10) rfl (by kernel_rfl) (by rfl) (fun K hK => ?_)
        go_simp
        (with_reducible refine (nd _).mono ?_); rintro e w7 ⟨v7, rfl, s7, hb⟩
        refine hK.out _ _ hb ?_
        replace hcur := below_via hcur hb; clear hK K
        replace e0 := Ext.trans e0 hb
        try simp only [Act.put, List.setIfInBounds_toArray, List.set_cons_zero, List.set_cons_succ]
        refine wpAnyE_take (i := 11) (v := ?_) (some 4) rfl rfl (by kernel_rfl) (by kernel_rfl) (by kernel_rfl) (fun _ _ _ h => h) ?_ ?_
        rotate_left 1
        · (refine Or.inl ⟨by rfl, ?_⟩; intro w' hw'; have hq := below_via hcur hw'; have hq_e0 := Ext.trans e0 hw'; (try go_simp); (try rfl); done)
        try simp only [Act.put, List.setIfInBounds_toArray, List.set_cons_zero, List.set_cons_succ]
        refine wpAnyE_done (by kernel_rfl) ?_ _
        go_wp2_with fail
        go_ret
        exact ⟨v7, rfl, by rw [htt.out]; exact s7, hcur⟩
theorem text_any (g k : Nat) (hk : k ≤ 256) (n : Nat) (v : Value) (zs : List (List UInt8)) (w : World) (h1 : zs.length ≤ n) (h2 : n ≤ 1048576) (h3 : ∀ z ∈ zs, z.length ≤ 1048576) (h4 : SlX w v zs) (h5 : HvAt w g k) :
    Calls Try.prog 30 #[hv g, v] w fun e w' => ∃ v', e = .returned v' ∧ SlB w' v' (textL k zs) ∧ Below w.heap.size w w' := own_sl (text_own g k hk n v zs w h1 h2 h3 h4 h5)
theorem root_any (g k : Nat) (hk : k ≤ 256) (v : Value) (zs : List (List UInt8)) (w : World) (hl : zs.length ≤ 1048576) (hz : ∀ z ∈ zs, z.length ≤ 1048576) (hv0 : SlX w v zs) (hg : HvAt w g k) :
    Calls Try.prog 15 #[hv g, v] w fun e w' => e = .returned (dg (rootX k zs)) ∧ Below w.heap.size w w' :=
  root_of w hk (by have := textL_length (k := k) (m := 1048576) zs (by omega) hz; omega) hg fun w' h => text_any g k hk 1048576 v zs w' hl (Nat.le_refl _) hz (hv0.below h) (hg.below h)
end Go.Proofs.Ytnpbapefjbfndaa
