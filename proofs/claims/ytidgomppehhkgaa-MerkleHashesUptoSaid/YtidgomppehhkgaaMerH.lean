/- The law MerkleHashes (walk). -/
import Derived.Test.YtidgomppehhkgaaMerX
set_option linter.unusedVariables false
set_option linter.unusedSimpArgs false
namespace Go.Proofs.Ytidgomppehhkgaa
open Go.RowKit
attribute [local go_sem high] dg_cells guard_dg rs_l rs_lh rs_lhm rs_h rs_hm rs_all

set_option maxRecDepth 10000 in
set_option maxHeartbeats 4000000 in
theorem law_MerkleHashes (vb : Value) (b x y : List UInt8) (vl : Value) (zs : List (List UInt8)) (w : World) (hb : SlB w vb b) (hbl : b.length ≤ 1048576) (hx : x.length = 32) (hy : y.length = 32) (hl : SlX w vl zs) (hzs : (zs.map fun z => z.length + 1).sum ≤ 1048576) :
    Calls Try.prog 6 #[vb, dg x, dg y, vl] w fun e w' => e = .returned (.bool true) ∧ Below w.heap.size w w' := by
  have hzl : zs.length ≤ 1048576 := Nat.le_trans (sum_len zs).1 hzs
  have hz : ∀ z ∈ zs, z.length ≤ 1048576 := fun z h => by have := (sum_len zs).2 z h; omega
  clear hzs
  obtain ⟨W, hW⟩ : ∃ W, (w.alloc (.cells (bs x).toArray 25 (0, 0))).alloc (.cells (bs y).toArray 25 (0, 0)) = W := ⟨_, rfl⟩
  obtain ⟨h1, h2, bw, z⟩ := alloc2 hW
  have rX : RowT 25 W w.heap.size x := h1
  have rY : RowT 25 W (w.heap.size + 1) y := h2
  have hbW := hb.below bw
  have hlW := hl.below bw
  have hzz : ∀ z ∈ zs, z.length ≤ 1073741824 := fun z h => Nat.le_trans (hz z h) (by decide)
  have ql := eql_dg_self (leafL b) (leafL_length b)
  have qn := eql_dg_self (nodeL x y) (nodeL_length x y)
  have cl := fun v w' h => leaf_any v b w' h (by omega)
  have crl := fun v w' h => rleaf_any v b w' h (by omega)
  have cn := fun w' => node_any x y hx hy w'
  have crn := fun w' => rnode_any x y hx hy w'
  have cls := fun w' h => leaves_any vl zs w' h hzl hzz
  have crls := fun w' h => rleaves_any vl zs w' h hzl hzz
  have hsm := fun va vb w' ha hb => same_any va vb (zs.map leafL) w' (by simp; omega) ha hb
  generalize leafL b = lb at *
  generalize nodeL x y = nxy at *
  generalize zs.map leafL = ls at *
  clear h1 h2 hz hzz hb hl z
  change Calls _ _ #[_, .agg (bs x).toArray, .agg (bs y).toArray, _] _ _
  go_enter Try.func6, Try.ntmps6
  go_wp2_with (at_builtin; go_loud (refine wpl_cpB rfl _ _ rfl rfl rfl hbW (by omega) ?_))
  intro v1 w1 h1 b1
  have hb1 := hbW.below b1
  have hl1 := hlW.below b1
  have rX1 := rX.below b1
  have rY1 := rY.below b1
  have hm1 := h1.sl
  have bw1 := Below.trans bw (b1.mono bw.size)
  clear h1 b1 hbW hlW rX rY bw hW
  have c1 := fun (w' : World) (h : Ext w1 w') => conv_sl (P := Try.prog) (dst := 9) Try.underlying41 Try.underlying5 Try.underlying9 (hb1.below h)
  have c2 := fun (w' : World) (h : Ext w1 w') => conv_sl (P := Try.prog) (dst := 9) Try.underlying41 Try.underlying5 Try.underlying9 (hm1.below h)
  have fb := fun (w' : World) (h : Ext w1 w') => hb1.below h
  have fm := fun (w' : World) (h : Ext w1 w') => hm1.below h
  have fl := fun (w' : World) (h : Ext w1 w') => hl1.below h
  have hcur : Below w.heap.size w w1 := bw1
  have e0 := Ext.refl w1
  clear hb1 hl1 hm1 bw1
  go_wp2_with fail
  refine wp_region_E (by kernel_rfl) ?_
  replace hcur := below_via hcur (ext_drew _)
  replace e0 := Ext.trans e0 (ext_drew _)
  refine wpAnyE_take (i := 0) (v := ?_) (some 12) rfl rfl (by kernel_rfl) (by kernel_rfl) (by kernel_rfl) (fun _ _ _ h => h) ?_ ?_
  rotate_left 1
  · (refine Or.inl ⟨by rfl, ?_⟩; intro w' hw'; have hq := below_via hcur hw'; have hq_e0 := Ext.trans e0 hw'; (try go_simp); (try rfl); done)
  try simp only [Act.put, List.setIfInBounds_toArray, List.set_cons_zero, List.set_cons_succ]
  refine wpAnyE_take (i := 2) (v := ?_) (some 14) rfl rfl (by kernel_rfl) (by kernel_rfl) (by kernel_rfl) (fun _ _ _ h => h) ?_ ?_
  rotate_left 1
  · (refine Or.inl ⟨by rfl, ?_⟩; intro w' hw'; have hq := below_via hcur hw'; have hq_e0 := Ext.trans e0 hw'; (try go_simp); (try rfl); done)
  try simp only [Act.put, List.setIfInBounds_toArray, List.set_cons_zero, List.set_cons_succ]
  refine wpAnyE_one (i := 1) rfl (by kernel_rfl) (by rfl) (fun K hK => ?_)
  go_simp
  (with_reducible refine (cl _ _ (fm _ e0)).mono ?_); rintro e w5 ⟨rfl, hb⟩
  refine hK.out _ _ hb ?_
  replace hcur := below_via hcur hb; clear hK K
  replace e0 := Ext.trans e0 hb
  try simp only [Act.put, List.setIfInBounds_toArray, List.set_cons_zero, List.set_cons_succ]
  refine wpAnyE_one (i := 3) rfl (by kernel_rfl) (by rfl) (fun K hK => ?_)
  go_simp
  (with_reducible refine (crl _ _ (fb _ e0)).mono ?_); rintro e w5 ⟨rfl, hb⟩
  refine hK.out _ _ hb ?_
  replace hcur := below_via hcur hb; clear hK K
  replace e0 := Ext.trans e0 hb
  try simp only [Act.put, List.setIfInBounds_toArray, List.set_cons_zero, List.set_cons_succ]
  refine wpAnyE_take (i := 4) (v := ?_) (some 16) rfl rfl (by kernel_rfl) (by kernel_rfl) (by kernel_rfl) (fun _ _ _ h => h) ?_ ?_
  rotate_left 1
  · (refine Or.inl ⟨by rfl, ?_⟩; intro w' hw'; have hq := below_via hcur hw'; have hq_e0 := Ext.trans e0 hw'; (try go_simp); (try rfl); done)
  try simp only [Act.put, List.setIfInBounds_toArray, List.set_cons_zero, List.set_cons_succ]
  refine wpAnyE_take (i := 5) (v := ?_) (some 17) rfl rfl (by kernel_rfl) (by kernel_rfl) (by kernel_rfl) (fun _ _ _ h => h) ?_ ?_
  rotate_left 1
  · (refine Or.inl ⟨by rfl, ?_⟩; intro w' hw'; have hq := below_via hcur hw'; have hq_e0 := Ext.trans e0 hw'; (try go_simp); (try rfl); done)
  try simp only [Act.put, List.setIfInBounds_toArray, List.set_cons_zero, List.set_cons_succ]
  refine wpAnyE_take (i := 6) (v := ?_) (some 18) rfl rfl (by kernel_rfl) (by kernel_rfl) (by kernel_rfl) (fun _ _ _ h => h) ?_ ?_
  rotate_left 1
  · (refine Or.inl ⟨by rfl, ?_⟩; intro w' hw'; have hq := below_via hcur hw'; have hq_e0 := Ext.trans e0 hw'; (try go_simp); (try rfl); done)
  try simp only [Act.put, List.setIfInBounds_toArray, List.set_cons_zero, List.set_cons_succ]
  refine wpAnyE_take (i := 7) (v := ?_) (some 19) rfl rfl (by kernel_rfl) (by kernel_rfl) (by kernel_rfl) (fun _ _ _ h => h) ?_ ?_
  rotate_left 1
  · (refine Or.inl ⟨by rfl, ?_⟩; intro w' hw'; have hq := below_via hcur hw'; have hq_e0 := Ext.trans e0 hw'; (try go_simp); (try rfl); done)
  try simp only [Act.put, List.setIfInBounds_toArray, List.set_cons_zero, List.set_cons_succ]
  refine wpAnyE_take (i := 8) (v := ?_) (some 20) rfl rfl (by kernel_rfl) (by kernel_rfl) (by kernel_rfl) (fun _ _ _ h => h) ?_ ?_
  rotate_left 1
  · (refine Or.inl ⟨by rfl, ?_⟩; intro w' hw'; have hq := below_via hcur hw'; have hq_e0 := Ext.trans e0 hw'; (try go_simp); (try rfl); done)
  try simp only [Act.put, List.setIfInBounds_toArray, List.set_cons_zero, List.set_cons_succ]
  refine wpAnyE_take (i := 9) (v := ?_) (some 21) rfl rfl (by kernel_rfl) (by kernel_rfl) (by kernel_rfl) (fun _ _ _ h => h) ?_ ?_
  rotate_left 1
  · (refine Or.inl ⟨by rfl, ?_⟩; intro w' hw'; have hq := below_via hcur hw'; have hq_e0 := Ext.trans e0 hw'; (try go_simp); (try rfl); done)
  try simp only [Act.put, List.setIfInBounds_toArray, List.set_cons_zero, List.set_cons_succ]
  refine wpAnyE_take (i := 10) (v := ?_) (some 22) rfl rfl (by kernel_rfl) (by kernel_rfl) (by kernel_rfl) (fun _ _ _ h => h) ?_ ?_
  rotate_left 1
  · (refine Or.inl ⟨by rfl, ?_⟩; intro w' hw'; have hq := below_via hcur hw'; have hq_e0 := Ext.trans e0 hw'; (try go_simp); (try rfl); done)
  try simp only [Act.put, List.setIfInBounds_toArray, List.set_cons_zero, List.set_cons_succ]
  refine wpAnyE_take (i := 11) (v := ?_) (some 23) rfl rfl (by kernel_rfl) (by kernel_rfl) (by kernel_rfl) (fun _ _ _ h => h) ?_ ?_
  rotate_left 1
  · (refine Or.inl ⟨by rfl, ?_⟩; intro w' hw'; have hq := below_via hcur hw'; have hq_e0 := Ext.trans e0 hw'; (try go_simp); (try rfl); done)
  try simp only [Act.put, List.setIfInBounds_toArray, List.set_cons_zero, List.set_cons_succ]
  refine wpAnyE_take (i := 12) (v := ?_) (some 24) rfl rfl (by kernel_rfl) (by kernel_rfl) (by kernel_rfl) (fun _ _ _ h => h) ?_ ?_
  rotate_left 1
  · (refine Or.inl ⟨by rfl, ?_⟩; intro w' hw'; have hq := below_via hcur hw'; have hq_e0 := Ext.trans e0 hw'; (try go_simp); (try rfl); done)
  try simp only [Act.put, List.setIfInBounds_toArray, List.set_cons_zero, List.set_cons_succ]
  refine wpAnyE_take (i := 13) (v := ?_) (some 25) rfl rfl (by kernel_rfl) (by kernel_rfl) (by kernel_rfl) (fun _ _ _ h => h) ?_ ?_
  rotate_left 1
  · (refine Or.inl ⟨by rfl, ?_⟩; intro w' hw'; have hq := below_via hcur hw'; have hq_e0 := Ext.trans e0 hw'; (refine arr_dg.ex (rX1.below hq_e0) hx (.tmp 5) ?_ ?_ <;> rfl))
  try simp only [Act.put, List.setIfInBounds_toArray, List.set_cons_zero, List.set_cons_succ]
  refine wpAnyE_take (i := 14) (v := ?_) (some 26) rfl rfl (by kernel_rfl) (by kernel_rfl) (by kernel_rfl) (fun _ _ _ h => h) ?_ ?_
  rotate_left 1
  · (refine Or.inl ⟨by rfl, ?_⟩; intro w' hw'; have hq := below_via hcur hw'; have hq_e0 := Ext.trans e0 hw'; (refine arr_dg.ex (rY1.below hq_e0) hy (.tmp 6) ?_ ?_ <;> rfl))
  try simp only [Act.put, List.setIfInBounds_toArray, List.set_cons_zero, List.set_cons_succ]
  refine wpAnyE_take (i := 16) (v := ?_) (some 28) rfl rfl (by kernel_rfl) (by kernel_rfl) (by kernel_rfl) (fun _ _ _ h => h) ?_ ?_
  rotate_left 1
  · (refine Or.inl ⟨by rfl, ?_⟩; intro w' hw'; have hq := below_via hcur hw'; have hq_e0 := Ext.trans e0 hw'; (refine arr_dg.ex (rX1.below hq_e0) hx (.tmp 5) ?_ ?_ <;> rfl))
  try simp only [Act.put, List.setIfInBounds_toArray, List.set_cons_zero, List.set_cons_succ]
  refine wpAnyE_take (i := 17) (v := ?_) (some 29) rfl rfl (by kernel_rfl) (by kernel_rfl) (by kernel_rfl) (fun _ _ _ h => h) ?_ ?_
  rotate_left 1
  · (refine Or.inl ⟨by rfl, ?_⟩; intro w' hw'; have hq := below_via hcur hw'; have hq_e0 := Ext.trans e0 hw'; (refine arr_dg.ex (rY1.below hq_e0) hy (.tmp 6) ?_ ?_ <;> rfl))
  try simp only [Act.put, List.setIfInBounds_toArray, List.set_cons_zero, List.set_cons_succ]
  refine wpAnyE_one (i := 15) rfl (by kernel_rfl) (by rfl) (fun K hK => ?_)
  go_simp
  (with_reducible refine (cn _).mono ?_); rintro e w5 ⟨rfl, hb⟩
  refine hK.out _ _ hb ?_
  replace hcur := below_via hcur hb; clear hK K
  replace e0 := Ext.trans e0 hb
  try simp only [Act.put, List.setIfInBounds_toArray, List.set_cons_zero, List.set_cons_succ]
  refine wpAnyE_one (i := 18) rfl (by kernel_rfl) (by rfl) (fun K hK => ?_)
  go_simp
  (with_reducible refine (crn _).mono ?_); rintro e w5 ⟨rfl, hb⟩
  refine hK.out _ _ hb ?_
  replace hcur := below_via hcur hb; clear hK K
  replace e0 := Ext.trans e0 hb
  try simp only [Act.put, List.setIfInBounds_toArray, List.set_cons_zero, List.set_cons_succ]
  refine wpAnyE_take (i := 19) (v := ?_) (some 31) rfl rfl (by kernel_rfl) (by kernel_rfl) (by kernel_rfl) (fun _ _ _ h => h) ?_ ?_
  rotate_left 1
  · (refine Or.inl ⟨by rfl, ?_⟩; intro w' hw'; have hq := below_via hcur hw'; have hq_e0 := Ext.trans e0 hw'; (try go_simp); (try rfl); done)
  try simp only [Act.put, List.setIfInBounds_toArray, List.set_cons_zero, List.set_cons_succ]
  refine wpAnyE_take (i := 20) (v := ?_) (some 32) rfl rfl (by kernel_rfl) (by kernel_rfl) (by kernel_rfl) (fun _ _ _ h => h) ?_ ?_
  rotate_left 1
  · (refine Or.inl ⟨by rfl, ?_⟩; intro w' hw'; have hq := below_via hcur hw'; have hq_e0 := Ext.trans e0 hw'; (try go_simp); (try rfl); done)
  try simp only [Act.put, List.setIfInBounds_toArray, List.set_cons_zero, List.set_cons_succ]
  refine wpAnyE_take (i := 21) (v := ?_) (some 33) rfl rfl (by kernel_rfl) (by kernel_rfl) (by kernel_rfl) (fun _ _ _ h => h) ?_ ?_
  rotate_left 1
  · (refine Or.inl ⟨by rfl, ?_⟩; intro w' hw'; have hq := below_via hcur hw'; have hq_e0 := Ext.trans e0 hw'; (try go_simp); (try rfl); done)
  try simp only [Act.put, List.setIfInBounds_toArray, List.set_cons_zero, List.set_cons_succ]
  refine wpAnyE_take (i := 22) (v := ?_) (some 34) rfl rfl (by kernel_rfl) (by kernel_rfl) (by kernel_rfl) (fun _ _ _ h => h) ?_ ?_
  rotate_left 1
  · (refine Or.inl ⟨by rfl, ?_⟩; intro w' hw'; have hq := below_via hcur hw'; have hq_e0 := Ext.trans e0 hw'; (try go_simp); (try rfl); done)
  try simp only [Act.put, List.setIfInBounds_toArray, List.set_cons_zero, List.set_cons_succ]
  refine wpAnyE_take (i := 24) (v := ?_) (some 36) rfl rfl (by kernel_rfl) (by kernel_rfl) (by kernel_rfl) (fun _ _ _ h => h) ?_ ?_
  rotate_left 1
  · (refine Or.inl ⟨by rfl, ?_⟩; intro w' hw'; have hq := below_via hcur hw'; have hq_e0 := Ext.trans e0 hw'; (try go_simp); (try rfl); done)
  try simp only [Act.put, List.setIfInBounds_toArray, List.set_cons_zero, List.set_cons_succ]
  refine wpAnyE_one (i := 23) rfl (by kernel_rfl) (by rfl) (fun K hK => ?_)
  go_simp
  (with_reducible refine (cls _ (fl _ e0)).mono ?_); rintro e w5 ⟨v5, rfl, ho5, hb⟩
  refine hK.out _ _ hb ?_
  replace hcur := below_via hcur hb; clear hK K
  replace e0 := Ext.trans e0 hb
  try simp only [Act.put, List.setIfInBounds_toArray, List.set_cons_zero, List.set_cons_succ]
  refine wpAnyE_one (i := 25) rfl (by kernel_rfl) (by rfl) (fun K hK => ?_)
  go_simp
  (with_reducible refine (crls _ (fl _ e0)).mono ?_); rintro e w6 ⟨v6, rfl, ho6, hb⟩
  have ho5 := ho5.below hb
  refine hK.out _ _ hb ?_
  replace hcur := below_via hcur hb; clear hK K
  replace e0 := Ext.trans e0 hb
  try simp only [Act.put, List.setIfInBounds_toArray, List.set_cons_zero, List.set_cons_succ]
  refine wpAnyE_one (i := 26) rfl (by kernel_rfl) (by rfl) (fun K hK => ?_)
  go_simp
  (with_reducible refine (hsm _ _ _ ho5.sl ho6.sl).mono ?_); rintro e w7 ⟨rfl, hb⟩
  refine hK.out _ _ hb ?_
  replace hcur := below_via hcur hb; clear hK K
  replace e0 := Ext.trans e0 hb
  try simp only [Act.put, List.setIfInBounds_toArray, List.set_cons_zero, List.set_cons_succ]
  refine wpAnyE_take (i := 27) (v := ?_) (some 39) rfl rfl (by kernel_rfl) (by kernel_rfl) (by kernel_rfl) (fun _ _ _ h => h) ?_ ?_
  rotate_left 1
  · (refine Or.inl ⟨by rfl, ?_⟩; intro w' hw'; have hq := below_via hcur hw'; have hq_e0 := Ext.trans e0 hw'; (try go_simp); (try rfl); done)
  try simp only [Act.put, List.setIfInBounds_toArray, List.set_cons_zero, List.set_cons_succ]
  refine wpAnyE_take (i := 28) (v := ?_) (some 40) rfl rfl (by kernel_rfl) (by kernel_rfl) (by kernel_rfl) (fun _ _ _ h => h) ?_ ?_
  rotate_left 1
  · (refine Or.inl ⟨by rfl, ?_⟩; intro w' hw'; have hq := below_via hcur hw'; have hq_e0 := Ext.trans e0 hw'; (try go_simp); (try rfl); done)
  try simp only [Act.put, List.setIfInBounds_toArray, List.set_cons_zero, List.set_cons_succ]
  refine wpAnyE_one (i := 29) rfl (by kernel_rfl) (by rfl) (fun K hK => ?_)
  go_simp
  (with_reducible refine (wakes_any _).mono ?_); rintro e w8 ⟨rfl, hb⟩
  refine hK.out _ _ hb ?_
  replace hcur := below_via hcur hb; clear hK K
  replace e0 := Ext.trans e0 hb
  try simp only [Act.put, List.setIfInBounds_toArray, List.set_cons_zero, List.set_cons_succ]
  refine wpAnyE_take (i := 30) (v := ?_) (some 42) rfl rfl (by kernel_rfl) (by kernel_rfl) (by kernel_rfl) (fun _ _ _ h => h) ?_ ?_
  rotate_left 1
  · (refine Or.inl ⟨by rfl, ?_⟩; intro w' hw'; have hq := below_via hcur hw'; have hq_e0 := Ext.trans e0 hw'; (try go_simp); (try rfl); done)
  try simp only [Act.put, List.setIfInBounds_toArray, List.set_cons_zero, List.set_cons_succ]
  refine wpAnyE_take (i := 31) (v := ?_) (some 8) rfl rfl (by kernel_rfl) (by kernel_rfl) (by kernel_rfl) (fun _ _ _ h => h) ?_ ?_
  rotate_left 1
  · (refine Or.inl ⟨by rfl, ?_⟩; intro w' hw'; have hq := below_via hcur hw'; have hq_e0 := Ext.trans e0 hw'; (try go_simp); (try rfl); done)
  try simp only [Act.put, List.setIfInBounds_toArray, List.set_cons_zero, List.set_cons_succ]
  refine wpAnyE_done (by kernel_rfl) ?_ _
  go_wp2_with fail
  go_ret
  exact ⟨rfl, hcur⟩
end Go.Proofs.Ytidgomppehhkgaa
