/- May of the reference (walks). -/
import Derived.Test.YtnpbapefjbfndaaZExtF
set_option linter.unusedVariables false
set_option linter.unusedSimpArgs false
set_option maxRecDepth 10000
namespace Go.Proofs.Ytnpbapefjbfndaa
open Go.RowKit
attribute [local go_sem high] dg_cells guard_dg

set_option maxHeartbeats 4000000 in
theorem rmay_any (k : Nat) (va vb : Value) (a b : List UInt8) (w : World) (hk : k ≤ 256) (la : a.length ≤ 1073741824) (lb : b.length ≤ 1073741824) (hva : SlB w va a) (hvb : SlB w vb b) :
    Calls Try.prog 18 #[.int .i64 k, .agg #[va, vb]] w fun e w' => e = .returned (.bool (mayL k a b)) ∧ Below w.heap.size w w' := by
  obtain ⟨A, c, rfl, _⟩ := id hva
  obtain ⟨A', c', rfl, _⟩ := id hvb
  have e1 := ext_alloc w (.cells #[.slice A a.length c, .slice A' b.length c'] 33)
  have l1 := fun w' => @pair_0 w w' 33 (.slice A a.length c) (.slice A' b.length c')
  have l2 := fun w' => @pair_1 w w' 33 (.slice A a.length c) (.slice A' b.length c')
  have fa := fun w' (h : Ext (w.alloc (.cells #[.slice A a.length c, .slice A' b.length c'] 33)) w') => hva.below (Ext.trans e1 h)
  have fb := fun w' (h : Ext (w.alloc (.cells #[.slice A a.length c, .slice A' b.length c'] 33)) w') => hvb.below (Ext.trans e1 h)
  have k1 := fun w' h => conv_sl (P := Try.prog) (dst := 9) Try.underlying23 Try.underlying5 Try.underlying9 (fa w' h)
  have k2 := fun w' h => conv_sl (P := Try.prog) (dst := 9) Try.underlying23 Try.underlying5 Try.underlying9 (fb w' h)
  have hxb : (a == b) = decide (a = b) := by rw [Bool.eq_iff_iff]; simp
  have ka := fun w' h => rhash_any k (.slice A a.length c) a w' (fa w' h) la hk
  have kb := fun w' h => rhash_any k (.slice A' b.length c') b w' (fb w' h) lb hk
  have da := hashL_length k a
  have db := hashL_length k b
  have qe := fun w' => arr_dg.eql (hashL k a) (hashL k b) da db w'
  have hml : mayL k a b = (!decide (a = b) && hashL k a == hashL k b) := rfl
  replace hml : Hid _ := hml
  clear fa fb hva hvb
  by_cases hab : a = b
  · have hd : decide (a = b) = true := decide_eq_true hab
    rw [hd] at hxb hml
    clear hab hd qe ka kb
    go_enter Try.func18, Try.ntmps18
    go_wp2_with fail
    generalize World.alloc w _ = W at *
    have hcur : Below w.heap.size w W := e1
    have e0 := Ext.refl W
    refine wp_region_E (by kernel_rfl) ?_
    replace hcur := below_via hcur (ext_drew _)
    replace e0 := Ext.trans e0 (ext_drew _)
    refine wpAnyE_take (i := 0) (v := ?_) (some 5) rfl rfl (by kernel_rfl) (by kernel_rfl) (by kernel_rfl) (fun _ _ _ h => h) ?_ ?_
    rotate_left 1
    · (refine Or.inl ⟨by rfl, ?_⟩; intro w' hw'; have hq := below_via hcur hw'; have hq_e0 := Ext.trans e0 hw'; have hz_l1 := l1 _ hq_e0; have hz_l2 := l2 _ hq_e0; have hz_k1 := k1 _ hq_e0; have hz_k2 := k2 _ hq_e0; (try go_simp); (try rfl); done)
    try simp only [Act.put, List.setIfInBounds_toArray, List.set_cons_zero, List.set_cons_succ]
    refine wpAnyE_take (i := 1) (v := ?_) (some 6) rfl rfl (by kernel_rfl) (by kernel_rfl) (by kernel_rfl) (fun _ _ _ h => h) ?_ ?_
    rotate_left 1
    · (refine Or.inl ⟨by rfl, ?_⟩; intro w' hw'; have hq := below_via hcur hw'; have hq_e0 := Ext.trans e0 hw'; have hz_l1 := l1 _ hq_e0; have hz_l2 := l2 _ hq_e0; have hz_k1 := k1 _ hq_e0; have hz_k2 := k2 _ hq_e0; (try go_simp); (try rfl); done)
    try simp only [Act.put, List.setIfInBounds_toArray, List.set_cons_zero, List.set_cons_succ]
    refine wpAnyE_take (i := 2) (v := ?_) (some 7) rfl rfl (by kernel_rfl) (by kernel_rfl) (by kernel_rfl) (fun _ _ _ h => h) ?_ ?_
    rotate_left 1
    · (refine Or.inl ⟨by rfl, ?_⟩; intro w' hw'; have hq := below_via hcur hw'; have hq_e0 := Ext.trans e0 hw'; have hz_l1 := l1 _ hq_e0; have hz_l2 := l2 _ hq_e0; have hz_k1 := k1 _ hq_e0; have hz_k2 := k2 _ hq_e0; (try go_simp); (try rfl); done)
    try simp only [Act.put, List.setIfInBounds_toArray, List.set_cons_zero, List.set_cons_succ]
    refine wpAnyE_take (i := 3) (v := ?_) (some 8) rfl rfl (by kernel_rfl) (by kernel_rfl) (by kernel_rfl) (fun _ _ _ h => h) ?_ ?_
    rotate_left 1
    · (refine Or.inl ⟨by rfl, ?_⟩; intro w' hw'; have hq := below_via hcur hw'; have hq_e0 := Ext.trans e0 hw'; have hz_l1 := l1 _ hq_e0; have hz_l2 := l2 _ hq_e0; have hz_k1 := k1 _ hq_e0; have hz_k2 := k2 _ hq_e0; (try go_simp); (try rfl); done)
    try simp only [Act.put, List.setIfInBounds_toArray, List.set_cons_zero, List.set_cons_succ]
    refine wpAnyE_take (i := 4) (v := ?_) (some 9) rfl rfl (by kernel_rfl) (by kernel_rfl) (by kernel_rfl) (fun _ _ _ h => h) ?_ ?_
    rotate_left 1
    · (refine Or.inl ⟨by rfl, ?_⟩; intro w' hw'; have hq := below_via hcur hw'; have hq_e0 := Ext.trans e0 hw'; have hz_l1 := l1 _ hq_e0; have hz_l2 := l2 _ hq_e0; have hz_k1 := k1 _ hq_e0; have hz_k2 := k2 _ hq_e0; (try go_simp); (try rfl); done)
    try simp only [Act.put, List.setIfInBounds_toArray, List.set_cons_zero, List.set_cons_succ]
    refine wpAnyE_take (i := 5) (v := ?_) (some 10) rfl rfl (by kernel_rfl) (by kernel_rfl) (by kernel_rfl) (fun _ _ _ h => h) ?_ ?_
    rotate_left 1
    · (refine Or.inl ⟨by rfl, ?_⟩; intro w' hw'; have hq := below_via hcur hw'; have hq_e0 := Ext.trans e0 hw'; have hz_l1 := l1 _ hq_e0; have hz_l2 := l2 _ hq_e0; have hz_k1 := k1 _ hq_e0; have hz_k2 := k2 _ hq_e0; (try go_simp); (try rfl); done)
    try simp only [Act.put, List.setIfInBounds_toArray, List.set_cons_zero, List.set_cons_succ]
    refine wpAnyE_take (i := 6) (v := ?_) (some 11) rfl rfl (by kernel_rfl) (by kernel_rfl) (by kernel_rfl) (fun _ _ _ h => h) ?_ ?_
    rotate_left 1
    · (refine Or.inl ⟨by rfl, ?_⟩; intro w' hw'; have hq := below_via hcur hw'; have hq_e0 := Ext.trans e0 hw'; have hz_l1 := l1 _ hq_e0; have hz_l2 := l2 _ hq_e0; have hz_k1 := k1 _ hq_e0; have hz_k2 := k2 _ hq_e0; (try go_simp); (try rfl); done)
    try simp only [Act.put, List.setIfInBounds_toArray, List.set_cons_zero, List.set_cons_succ]
    refine wpAnyE_take (i := 7) (v := ?_) (some 12) rfl rfl (by kernel_rfl) (by kernel_rfl) (by kernel_rfl) (fun _ _ _ h => h) ?_ ?_
    rotate_left 1
    · (refine Or.inl ⟨by rfl, ?_⟩; intro w' hw'; have hq := below_via hcur hw'; have hq_e0 := Ext.trans e0 hw'; have hz_l1 := l1 _ hq_e0; have hz_l2 := l2 _ hq_e0; have hz_k1 := k1 _ hq_e0; have hz_k2 := k2 _ hq_e0; (try go_simp); (try rfl); done)
    try simp only [Act.put, List.setIfInBounds_toArray, List.set_cons_zero, List.set_cons_succ]
    refine wpAnyE_take (i := 8) (v := undef) (some 13) rfl rfl (by kernel_rfl) (by kernel_rfl) (by kernel_rfl) (fun _ _ _ h => h) (Or.inr ⟨by rfl, rfl⟩) ?_
    try simp only [Act.put, List.setIfInBounds_toArray, List.set_cons_zero, List.set_cons_succ]
    refine wpAnyE_take (i := 9) (v := undef) (some 14) rfl rfl (by kernel_rfl) (by kernel_rfl) (by kernel_rfl) (fun _ _ _ h => h) (Or.inr ⟨by rfl, rfl⟩) ?_
    try simp only [Act.put, List.setIfInBounds_toArray, List.set_cons_zero, List.set_cons_succ]
    refine wpAnyE_take (i := 10) (v := undef) (some 15) rfl rfl (by kernel_rfl) (by kernel_rfl) (by kernel_rfl) (fun _ _ _ h => h) (Or.inr ⟨by rfl, rfl⟩) ?_
    try simp only [Act.put, List.setIfInBounds_toArray, List.set_cons_zero, List.set_cons_succ]
    refine wpAnyE_take (i := 11) (v := undef) (some 16) rfl rfl (by kernel_rfl) (by kernel_rfl) (by kernel_rfl) (fun _ _ _ h => h) (Or.inr ⟨by rfl, rfl⟩) ?_
    try simp only [Act.put, List.setIfInBounds_toArray, List.set_cons_zero, List.set_cons_succ]
    refine wpAnyE_take (i := 12) (v := undef) (some 17) rfl rfl (by kernel_rfl) (by kernel_rfl) (by kernel_rfl) (fun _ _ _ h => h) (Or.inr ⟨by rfl, rfl⟩) ?_
    try simp only [Act.put, List.setIfInBounds_toArray, List.set_cons_zero, List.set_cons_succ]
    refine wpAnyE_take (i := 13) (v := undef) (some 18) rfl rfl (by kernel_rfl) (by kernel_rfl) (by kernel_rfl) (fun _ _ _ h => h) (Or.inr ⟨by rfl, rfl⟩) ?_
    try simp only [Act.put, List.setIfInBounds_toArray, List.set_cons_zero, List.set_cons_succ]
    refine wpAnyE_take (i := 14) (v := undef) (some 19) rfl rfl (by kernel_rfl) (by kernel_rfl) (by kernel_rfl) (fun _ _ _ h => h) (Or.inr ⟨by rfl, rfl⟩) ?_
    try simp only [Act.put, List.setIfInBounds_toArray, List.set_cons_zero, List.set_cons_succ]
    refine wpAnyE_take (i := 15) (v := undef) (some 20) rfl rfl (by kernel_rfl) (by kernel_rfl) (by kernel_rfl) (fun _ _ _ h => h) (Or.inr ⟨by rfl, rfl⟩) ?_
    try simp only [Act.put, List.setIfInBounds_toArray, List.set_cons_zero, List.set_cons_succ]
    refine wpAnyE_take (i := 16) (v := undef) (some 21) rfl rfl (by kernel_rfl) (by kernel_rfl) (by kernel_rfl) (fun _ _ _ h => h) (Or.inr ⟨by rfl, rfl⟩) ?_
    try simp only [Act.put, List.setIfInBounds_toArray, List.set_cons_zero, List.set_cons_succ]
    refine wpAnyE_take (i := 17) (v := ?_) (some 22) rfl rfl (by kernel_rfl) (by kernel_rfl) (by kernel_rfl) (fun _ _ _ h => h) ?_ ?_
    rotate_left 1
    · (refine Or.inl ⟨by rfl, ?_⟩; intro w' hw'; have hq := below_via hcur hw'; have hq_e0 := Ext.trans e0 hw'; have hz_l1 := l1 _ hq_e0; have hz_l2 := l2 _ hq_e0; have hz_k1 := k1 _ hq_e0; have hz_k2 := k2 _ hq_e0; (try go_simp); (try rfl); done)
    try simp only [Act.put, List.setIfInBounds_toArray, List.set_cons_zero, List.set_cons_succ]
    refine wpAnyE_take (i := 18) (v := ?_) (some 4) rfl rfl (by kernel_rfl) (by kernel_rfl) (by kernel_rfl) (fun _ _ _ h => h) ?_ ?_
    rotate_left 1
    · (refine Or.inl ⟨by rfl, ?_⟩; intro w' hw'; have hq := below_via hcur hw'; have hq_e0 := Ext.trans e0 hw'; have hz_l1 := l1 _ hq_e0; have hz_l2 := l2 _ hq_e0; have hz_k1 := k1 _ hq_e0; have hz_k2 := k2 _ hq_e0; (try go_simp); (try rfl); done)
    try simp only [Act.put, List.setIfInBounds_toArray, List.set_cons_zero, List.set_cons_succ]
    refine wpAnyE_done (by kernel_rfl) ?_ _
    go_wp2_with fail
    go_ret
    exact ⟨by rw [hml.out]; rfl, hcur⟩
  · have hd : decide (a = b) = false := decide_eq_false hab
    rw [hd] at hxb hml
    clear hab hd
    generalize hashL k a = xa at *
    generalize hashL k b = xb at *
    go_enter Try.func18, Try.ntmps18
    go_wp2_with fail
    generalize World.alloc w _ = W at *
    have hcur : Below w.heap.size w W := e1
    have e0 := Ext.refl W
    refine wp_region_E (by kernel_rfl) ?_
    replace hcur := below_via hcur (ext_drew _)
    replace e0 := Ext.trans e0 (ext_drew _)
    refine wpAnyE_take (i := 0) (v := ?_) (some 5) rfl rfl (by kernel_rfl) (by kernel_rfl) (by kernel_rfl) (fun _ _ _ h => h) ?_ ?_
    rotate_left 1
    · (refine Or.inl ⟨by rfl, ?_⟩; intro w' hw'; have hq := below_via hcur hw'; have hq_e0 := Ext.trans e0 hw'; have hz_l1 := l1 _ hq_e0; have hz_l2 := l2 _ hq_e0; have hz_k1 := k1 _ hq_e0; have hz_k2 := k2 _ hq_e0; (try go_simp); (try rfl); done)
    try simp only [Act.put, List.setIfInBounds_toArray, List.set_cons_zero, List.set_cons_succ]
    refine wpAnyE_take (i := 1) (v := ?_) (some 6) rfl rfl (by kernel_rfl) (by kernel_rfl) (by kernel_rfl) (fun _ _ _ h => h) ?_ ?_
    rotate_left 1
    · (refine Or.inl ⟨by rfl, ?_⟩; intro w' hw'; have hq := below_via hcur hw'; have hq_e0 := Ext.trans e0 hw'; have hz_l1 := l1 _ hq_e0; have hz_l2 := l2 _ hq_e0; have hz_k1 := k1 _ hq_e0; have hz_k2 := k2 _ hq_e0; (try go_simp); (try rfl); done)
    try simp only [Act.put, List.setIfInBounds_toArray, List.set_cons_zero, List.set_cons_succ]
    refine wpAnyE_take (i := 2) (v := ?_) (some 7) rfl rfl (by kernel_rfl) (by kernel_rfl) (by kernel_rfl) (fun _ _ _ h => h) ?_ ?_
    rotate_left 1
    · (refine Or.inl ⟨by rfl, ?_⟩; intro w' hw'; have hq := below_via hcur hw'; have hq_e0 := Ext.trans e0 hw'; have hz_l1 := l1 _ hq_e0; have hz_l2 := l2 _ hq_e0; have hz_k1 := k1 _ hq_e0; have hz_k2 := k2 _ hq_e0; (try go_simp); (try rfl); done)
    try simp only [Act.put, List.setIfInBounds_toArray, List.set_cons_zero, List.set_cons_succ]
    refine wpAnyE_take (i := 3) (v := ?_) (some 8) rfl rfl (by kernel_rfl) (by kernel_rfl) (by kernel_rfl) (fun _ _ _ h => h) ?_ ?_
    rotate_left 1
    · (refine Or.inl ⟨by rfl, ?_⟩; intro w' hw'; have hq := below_via hcur hw'; have hq_e0 := Ext.trans e0 hw'; have hz_l1 := l1 _ hq_e0; have hz_l2 := l2 _ hq_e0; have hz_k1 := k1 _ hq_e0; have hz_k2 := k2 _ hq_e0; (try go_simp); (try rfl); done)
    try simp only [Act.put, List.setIfInBounds_toArray, List.set_cons_zero, List.set_cons_succ]
    refine wpAnyE_take (i := 4) (v := ?_) (some 9) rfl rfl (by kernel_rfl) (by kernel_rfl) (by kernel_rfl) (fun _ _ _ h => h) ?_ ?_
    rotate_left 1
    · (refine Or.inl ⟨by rfl, ?_⟩; intro w' hw'; have hq := below_via hcur hw'; have hq_e0 := Ext.trans e0 hw'; have hz_l1 := l1 _ hq_e0; have hz_l2 := l2 _ hq_e0; have hz_k1 := k1 _ hq_e0; have hz_k2 := k2 _ hq_e0; (try go_simp); (try rfl); done)
    try simp only [Act.put, List.setIfInBounds_toArray, List.set_cons_zero, List.set_cons_succ]
    refine wpAnyE_take (i := 5) (v := ?_) (some 10) rfl rfl (by kernel_rfl) (by kernel_rfl) (by kernel_rfl) (fun _ _ _ h => h) ?_ ?_
    rotate_left 1
    · (refine Or.inl ⟨by rfl, ?_⟩; intro w' hw'; have hq := below_via hcur hw'; have hq_e0 := Ext.trans e0 hw'; have hz_l1 := l1 _ hq_e0; have hz_l2 := l2 _ hq_e0; have hz_k1 := k1 _ hq_e0; have hz_k2 := k2 _ hq_e0; (try go_simp); (try rfl); done)
    try simp only [Act.put, List.setIfInBounds_toArray, List.set_cons_zero, List.set_cons_succ]
    refine wpAnyE_take (i := 6) (v := ?_) (some 11) rfl rfl (by kernel_rfl) (by kernel_rfl) (by kernel_rfl) (fun _ _ _ h => h) ?_ ?_
    rotate_left 1
    · (refine Or.inl ⟨by rfl, ?_⟩; intro w' hw'; have hq := below_via hcur hw'; have hq_e0 := Ext.trans e0 hw'; have hz_l1 := l1 _ hq_e0; have hz_l2 := l2 _ hq_e0; have hz_k1 := k1 _ hq_e0; have hz_k2 := k2 _ hq_e0; (try go_simp); (try rfl); done)
    try simp only [Act.put, List.setIfInBounds_toArray, List.set_cons_zero, List.set_cons_succ]
    refine wpAnyE_take (i := 7) (v := ?_) (some 12) rfl rfl (by kernel_rfl) (by kernel_rfl) (by kernel_rfl) (fun _ _ _ h => h) ?_ ?_
    rotate_left 1
    · (refine Or.inl ⟨by rfl, ?_⟩; intro w' hw'; have hq := below_via hcur hw'; have hq_e0 := Ext.trans e0 hw'; have hz_l1 := l1 _ hq_e0; have hz_l2 := l2 _ hq_e0; have hz_k1 := k1 _ hq_e0; have hz_k2 := k2 _ hq_e0; (try go_simp); (try rfl); done)
    try simp only [Act.put, List.setIfInBounds_toArray, List.set_cons_zero, List.set_cons_succ]
    refine wpAnyE_take (i := 8) (v := ?_) (some 13) rfl rfl (by kernel_rfl) (by kernel_rfl) (by kernel_rfl) (fun _ _ _ h => h) ?_ ?_
    rotate_left 1
    · (refine Or.inl ⟨by rfl, ?_⟩; intro w' hw'; have hq := below_via hcur hw'; have hq_e0 := Ext.trans e0 hw'; have hz_l1 := l1 _ hq_e0; have hz_l2 := l2 _ hq_e0; have hz_k1 := k1 _ hq_e0; have hz_k2 := k2 _ hq_e0; (try go_simp); (try rfl); done)
    try simp only [Act.put, List.setIfInBounds_toArray, List.set_cons_zero, List.set_cons_succ]
    refine wpAnyE_take (i := 9) (v := ?_) (some 14) rfl rfl (by kernel_rfl) (by kernel_rfl) (by kernel_rfl) (fun _ _ _ h => h) ?_ ?_
    rotate_left 1
    · (refine Or.inl ⟨by rfl, ?_⟩; intro w' hw'; have hq := below_via hcur hw'; have hq_e0 := Ext.trans e0 hw'; have hz_l1 := l1 _ hq_e0; have hz_l2 := l2 _ hq_e0; have hz_k1 := k1 _ hq_e0; have hz_k2 := k2 _ hq_e0; (try go_simp); (try rfl); done)
    try simp only [Act.put, List.setIfInBounds_toArray, List.set_cons_zero, List.set_cons_succ]
    refine wpAnyE_take (i := 10) (v := ?_) (some 15) rfl rfl (by kernel_rfl) (by kernel_rfl) (by kernel_rfl) (fun _ _ _ h => h) ?_ ?_
    rotate_left 1
    · (refine Or.inl ⟨by rfl, ?_⟩; intro w' hw'; have hq := below_via hcur hw'; have hq_e0 := Ext.trans e0 hw'; have hz_l1 := l1 _ hq_e0; have hz_l2 := l2 _ hq_e0; have hz_k1 := k1 _ hq_e0; have hz_k2 := k2 _ hq_e0; (try go_simp); (try rfl); done)
    try simp only [Act.put, List.setIfInBounds_toArray, List.set_cons_zero, List.set_cons_succ]
    refine wpAnyE_take (i := 12) (v := ?_) (some 17) rfl rfl (by kernel_rfl) (by kernel_rfl) (by kernel_rfl) (fun _ _ _ h => h) ?_ ?_
    rotate_left 1
    · (refine Or.inl ⟨by rfl, ?_⟩; intro w' hw'; have hq := below_via hcur hw'; have hq_e0 := Ext.trans e0 hw'; have hz_l1 := l1 _ hq_e0; have hz_l2 := l2 _ hq_e0; have hz_k1 := k1 _ hq_e0; have hz_k2 := k2 _ hq_e0; (try go_simp); (try rfl); done)
    try simp only [Act.put, List.setIfInBounds_toArray, List.set_cons_zero, List.set_cons_succ]
    refine wpAnyE_take (i := 13) (v := ?_) (some 18) rfl rfl (by kernel_rfl) (by kernel_rfl) (by kernel_rfl) (fun _ _ _ h => h) ?_ ?_
    rotate_left 1
    · (refine Or.inl ⟨by rfl, ?_⟩; intro w' hw'; have hq := below_via hcur hw'; have hq_e0 := Ext.trans e0 hw'; have hz_l1 := l1 _ hq_e0; have hz_l2 := l2 _ hq_e0; have hz_k1 := k1 _ hq_e0; have hz_k2 := k2 _ hq_e0; (try go_simp); (try rfl); done)
    try simp only [Act.put, List.setIfInBounds_toArray, List.set_cons_zero, List.set_cons_succ]
    refine wpAnyE_take (i := 14) (v := ?_) (some 19) rfl rfl (by kernel_rfl) (by kernel_rfl) (by kernel_rfl) (fun _ _ _ h => h) ?_ ?_
    rotate_left 1
    · (refine Or.inl ⟨by rfl, ?_⟩; intro w' hw'; have hq := below_via hcur hw'; have hq_e0 := Ext.trans e0 hw'; have hz_l1 := l1 _ hq_e0; have hz_l2 := l2 _ hq_e0; have hz_k1 := k1 _ hq_e0; have hz_k2 := k2 _ hq_e0; (try go_simp); (try rfl); done)
    try simp only [Act.put, List.setIfInBounds_toArray, List.set_cons_zero, List.set_cons_succ]
    refine wpAnyE_one (i := 11) rfl (by kernel_rfl) (by rfl) (fun K hK => ?_)
    go_simp
    (with_reducible refine (ka _ e0).mono ?_); rintro e w6 ⟨rfl, hb⟩
    refine hK.out _ _ hb ?_
    replace hcur := below_via hcur hb; clear hK K
    replace e0 := Ext.trans e0 hb
    try simp only [Act.put, List.setIfInBounds_toArray, List.set_cons_zero, List.set_cons_succ]
    refine wpAnyE_one (i := 15) rfl (by kernel_rfl) (by rfl) (fun K hK => ?_)
    go_simp
    (with_reducible refine (kb _ e0).mono ?_); rintro e w7 ⟨rfl, hb⟩
    refine hK.out _ _ hb ?_
    replace hcur := below_via hcur hb; clear hK K
    replace e0 := Ext.trans e0 hb
    try simp only [Act.put, List.setIfInBounds_toArray, List.set_cons_zero, List.set_cons_succ]
    refine wpAnyE_take (i := 16) (v := ?_) (some 21) rfl rfl (by kernel_rfl) (by kernel_rfl) (by kernel_rfl) (fun _ _ _ h => h) ?_ ?_
    rotate_left 1
    · (refine Or.inl ⟨by rfl, ?_⟩; intro w' hw'; have hq := below_via hcur hw'; have hq_e0 := Ext.trans e0 hw'; have hz_l1 := l1 _ hq_e0; have hz_l2 := l2 _ hq_e0; have hz_k1 := k1 _ hq_e0; have hz_k2 := k2 _ hq_e0; (try go_simp); (try rfl); done)
    try simp only [Act.put, List.setIfInBounds_toArray, List.set_cons_zero, List.set_cons_succ]
    refine wpAnyE_take (i := 17) (v := ?_) (some 22) rfl rfl (by kernel_rfl) (by kernel_rfl) (by kernel_rfl) (fun _ _ _ h => h) ?_ ?_
    rotate_left 1
    · (refine Or.inl ⟨by rfl, ?_⟩; intro w' hw'; have hq := below_via hcur hw'; have hq_e0 := Ext.trans e0 hw'; have hz_l1 := l1 _ hq_e0; have hz_l2 := l2 _ hq_e0; have hz_k1 := k1 _ hq_e0; have hz_k2 := k2 _ hq_e0; (try go_simp); (try rfl); done)
    try simp only [Act.put, List.setIfInBounds_toArray, List.set_cons_zero, List.set_cons_succ]
    refine wpAnyE_take (i := 18) (v := ?_) (some 4) rfl rfl (by kernel_rfl) (by kernel_rfl) (by kernel_rfl) (fun _ _ _ h => h) ?_ ?_
    rotate_left 1
    · (refine Or.inl ⟨by rfl, ?_⟩; intro w' hw'; have hq := below_via hcur hw'; have hq_e0 := Ext.trans e0 hw'; have hz_l1 := l1 _ hq_e0; have hz_l2 := l2 _ hq_e0; have hz_k1 := k1 _ hq_e0; have hz_k2 := k2 _ hq_e0; (try go_simp); (try rfl); done)
    try simp only [Act.put, List.setIfInBounds_toArray, List.set_cons_zero, List.set_cons_succ]
    refine wpAnyE_done (by kernel_rfl) ?_ _
    go_wp2_with fail
    go_ret
    exact ⟨by rw [hml.out]; simp, hcur⟩
end Go.Proofs.Ytnpbapefjbfndaa
