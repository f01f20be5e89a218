/- May (walks). -/
import Derived.Test.YtnpbapefjbfndaaZExtD
import Derived.Test.YtnpbapefjbfndaaZExtE
set_option linter.unusedVariables false
set_option linter.unusedSimpArgs false
set_option maxRecDepth 10000
namespace Go.Proofs.Ytnpbapefjbfndaa
open Go.RowKit
attribute [local go_sem high] dg_cells guard_dg

theorem pair_cells {w : World} {t : TypeId} (u v : Value) : Rc (w.alloc (.cells #[u, v] t)) (some ⟨w.heap.size, 0, none⟩) [u, v] := rc_new w [u, v] t
theorem pair_0 {w w' : World} {t : TypeId} {u v : Value} (h : Ext (w.alloc (.cells #[u, v] t)) w') : w'.cell? ⟨w.heap.size, 0, none⟩ = some u := by
  have := (pair_cells (w := w) (t := t) u v).some_ 0 u rfl
  rw [Addr.add_lit, Nat.zero_add] at this
  exact (h.cell (World.block_lt_of_cell? _ _ this)).trans this
theorem pair_1 {w w' : World} {t : TypeId} {u v : Value} (h : Ext (w.alloc (.cells #[u, v] t)) w') : w'.cell? ⟨w.heap.size, 1, none⟩ = some v := by
  have := (pair_cells (w := w) (t := t) u v).some_ 1 v rfl
  rw [Addr.add_lit, Nat.zero_add] at this
  exact (h.cell (World.block_lt_of_cell? _ _ this)).trans this
/-- May's answer. -/
def mayL (k : Nat) (a b : List UInt8) : Bool := !decide (a = b) && hashL k a == hashL k b
set_option maxHeartbeats 4000000 in
theorem may_any (g k : Nat) (va vb : Value) (a b : List UInt8) (w : World) (hk : k ≤ 256) (la : a.length ≤ 1073741824) (lb : b.length ≤ 1073741824) (hva : SlB w va a) (hvb : SlB w vb b) (hg : HvAt w g k) :
    Calls Try.prog 17 #[hv g, .agg #[va, vb]] w fun e w' => e = .returned (.bool (mayL k a b)) ∧ Below w.heap.size w w' := by
  have qn := hv_neq g
  obtain ⟨A, c, rfl, _⟩ := id hva
  obtain ⟨A', c', rfl, _⟩ := id hvb
  have e1 := ext_alloc w (.cells #[.slice A a.length c, .slice A' b.length c'] 30)
  have l1 := fun w' => @pair_0 w w' 30 (.slice A a.length c) (.slice A' b.length c')
  have l2 := fun w' => @pair_1 w w' 30 (.slice A a.length c) (.slice A' b.length c')
  have hga := fun w' (h : Ext (w.alloc (.cells #[.slice A a.length c, .slice A' b.length c'] 30)) w') => hg.below (Ext.trans e1 h)
  have fa := fun w' (h : Ext (w.alloc (.cells #[.slice A a.length c, .slice A' b.length c'] 30)) w') => hva.below (Ext.trans e1 h)
  have fb := fun w' (h : Ext (w.alloc (.cells #[.slice A a.length c, .slice A' b.length c'] 30)) w') => hvb.below (Ext.trans e1 h)
  have ke := fun w' h => equal_any (.slice A a.length c) (.slice A' b.length c') a b w' (fa w' h) (fb w' h)
  have ka := fun w' h => hash1_any g k (.slice A a.length c) a w' (fa w' h) la hk (hga w' h)
  have kb := fun w' h => hash1_any g k (.slice A' b.length c') b w' (fb w' h) lb hk (hga w' h)
  have da := hashL_length k a
  have db := hashL_length k b
  have qe := fun w' => arr_dg.eql (hashL k a) (hashL k b) da db w'
  have hml : mayL k a b = (!decide (a = b) && hashL k a == hashL k b) := rfl
  replace hml : Hid _ := hml
  clear fa fb hga hva hvb hg
  unfold hv
  by_cases hab : a = b
  · have hd : decide (a = b) = true := decide_eq_true hab
    rw [hd] at ke hml
    clear hab hd qe ka kb
    go_enter Try.func17, Try.ntmps17
    go_wp2_with fail
    generalize World.alloc w _ = W at *
    have hcur : Below w.heap.size w W := e1
    have e0 := Ext.refl W
    refine wp_region_E (by kernel_rfl) ?_
    replace hcur := below_via hcur (ext_drew _)
    replace e0 := Ext.trans e0 (ext_drew _)
    refine wpAnyE_take (i := 0) (v := ?_) (some 5) rfl rfl (by kernel_rfl) (by kernel_rfl) (by kernel_rfl) (fun _ _ _ h => h) ?_ ?_
    rotate_left 1
    · (refine Or.inl ⟨by rfl, ?_⟩; intro w' hw'; have hq := below_via hcur hw'; have hq_e0 := Ext.trans e0 hw'; have hz_l1 := l1 _ hq_e0; have hz_l2 := l2 _ hq_e0; (try go_simp); (try rfl); done)
    try simp only [Act.put, List.setIfInBounds_toArray, List.set_cons_zero, List.set_cons_succ]
    refine wpAnyE_take (i := 1) (v := ?_) (some 6) rfl rfl (by kernel_rfl) (by kernel_rfl) (by kernel_rfl) (fun _ _ _ h => h) ?_ ?_
    rotate_left 1
    · (refine Or.inl ⟨by rfl, ?_⟩; intro w' hw'; have hq := below_via hcur hw'; have hq_e0 := Ext.trans e0 hw'; have hz_l1 := l1 _ hq_e0; have hz_l2 := l2 _ hq_e0; (try go_simp); (try rfl); done)
    try simp only [Act.put, List.setIfInBounds_toArray, List.set_cons_zero, List.set_cons_succ]
    refine wpAnyE_take (i := 2) (v := ?_) (some 7) rfl rfl (by kernel_rfl) (by kernel_rfl) (by kernel_rfl) (fun _ _ _ h => h) ?_ ?_
    rotate_left 1
    · (refine Or.inl ⟨by rfl, ?_⟩; intro w' hw'; have hq := below_via hcur hw'; have hq_e0 := Ext.trans e0 hw'; have hz_l1 := l1 _ hq_e0; have hz_l2 := l2 _ hq_e0; (try go_simp); (try rfl); done)
    try simp only [Act.put, List.setIfInBounds_toArray, List.set_cons_zero, List.set_cons_succ]
    refine wpAnyE_take (i := 3) (v := ?_) (some 8) rfl rfl (by kernel_rfl) (by kernel_rfl) (by kernel_rfl) (fun _ _ _ h => h) ?_ ?_
    rotate_left 1
    · (refine Or.inl ⟨by rfl, ?_⟩; intro w' hw'; have hq := below_via hcur hw'; have hq_e0 := Ext.trans e0 hw'; have hz_l1 := l1 _ hq_e0; have hz_l2 := l2 _ hq_e0; (try go_simp); (try rfl); done)
    try simp only [Act.put, List.setIfInBounds_toArray, List.set_cons_zero, List.set_cons_succ]
    refine wpAnyE_take (i := 4) (v := ?_) (some 9) rfl rfl (by kernel_rfl) (by kernel_rfl) (by kernel_rfl) (fun _ _ _ h => h) ?_ ?_
    rotate_left 1
    · (refine Or.inl ⟨by rfl, ?_⟩; intro w' hw'; have hq := below_via hcur hw'; have hq_e0 := Ext.trans e0 hw'; have hz_l1 := l1 _ hq_e0; have hz_l2 := l2 _ hq_e0; (try go_simp); (try rfl); done)
    try simp only [Act.put, List.setIfInBounds_toArray, List.set_cons_zero, List.set_cons_succ]
    refine wpAnyE_take (i := 5) (v := ?_) (some 10) rfl rfl (by kernel_rfl) (by kernel_rfl) (by kernel_rfl) (fun _ _ _ h => h) ?_ ?_
    rotate_left 1
    · (refine Or.inl ⟨by rfl, ?_⟩; intro w' hw'; have hq := below_via hcur hw'; have hq_e0 := Ext.trans e0 hw'; have hz_l1 := l1 _ hq_e0; have hz_l2 := l2 _ hq_e0; (try go_simp); (try rfl); done)
    try simp only [Act.put, List.setIfInBounds_toArray, List.set_cons_zero, List.set_cons_succ]
    refine wpAnyE_take (i := 6) (v := ?_) (some 11) rfl rfl (by kernel_rfl) (by kernel_rfl) (by kernel_rfl) (fun _ _ _ h => h) ?_ ?_
    rotate_left 1
    · (refine Or.inl ⟨by rfl, ?_⟩; intro w' hw'; have hq := below_via hcur hw'; have hq_e0 := Ext.trans e0 hw'; have hz_l1 := l1 _ hq_e0; have hz_l2 := l2 _ hq_e0; (try go_simp); (try rfl); done)
    try simp only [Act.put, List.setIfInBounds_toArray, List.set_cons_zero, List.set_cons_succ]
    refine wpAnyE_one (i := 7) rfl (by kernel_rfl) (by rfl) (fun K hK => ?_)
    go_simp
    (with_reducible refine (ke _ e0).mono ?_); rintro e w5 ⟨rfl, rfl⟩
    refine hK.out _ _ (Ext.refl _) ?_
    clear hK K
    try simp only [Act.put, List.setIfInBounds_toArray, List.set_cons_zero, List.set_cons_succ]
    refine wpAnyE_take (i := 8) (v := ?_) (some 13) rfl rfl (by kernel_rfl) (by kernel_rfl) (by kernel_rfl) (fun _ _ _ h => h) ?_ ?_
    rotate_left 1
    · (refine Or.inl ⟨by rfl, ?_⟩; intro w' hw'; have hq := below_via hcur hw'; have hq_e0 := Ext.trans e0 hw'; have hz_l1 := l1 _ hq_e0; have hz_l2 := l2 _ hq_e0; (try go_simp); (try rfl); done)
    try simp only [Act.put, List.setIfInBounds_toArray, List.set_cons_zero, List.set_cons_succ]
    refine wpAnyE_take (i := 9) (v := ?_) (some 14) rfl rfl (by kernel_rfl) (by kernel_rfl) (by kernel_rfl) (fun _ _ _ h => h) ?_ ?_
    rotate_left 1
    · (refine Or.inl ⟨by rfl, ?_⟩; intro w' hw'; have hq := below_via hcur hw'; have hq_e0 := Ext.trans e0 hw'; have hz_l1 := l1 _ hq_e0; have hz_l2 := l2 _ hq_e0; (try go_simp); (try rfl); done)
    try simp only [Act.put, List.setIfInBounds_toArray, List.set_cons_zero, List.set_cons_succ]
    refine wpAnyE_take (i := 10) (v := ?_) (some 15) rfl rfl (by kernel_rfl) (by kernel_rfl) (by kernel_rfl) (fun _ _ _ h => h) ?_ ?_
    rotate_left 1
    · (refine Or.inl ⟨by rfl, ?_⟩; intro w' hw'; have hq := below_via hcur hw'; have hq_e0 := Ext.trans e0 hw'; have hz_l1 := l1 _ hq_e0; have hz_l2 := l2 _ hq_e0; (try go_simp); (try rfl); done)
    try simp only [Act.put, List.setIfInBounds_toArray, List.set_cons_zero, List.set_cons_succ]
    refine wpAnyE_take (i := 11) (v := undef) (some 16) rfl rfl (by kernel_rfl) (by kernel_rfl) (by kernel_rfl) (fun _ _ _ h => h) (Or.inr ⟨by rfl, rfl⟩) ?_
    try simp only [Act.put, List.setIfInBounds_toArray, List.set_cons_zero, List.set_cons_succ]
    refine wpAnyE_take (i := 12) (v := undef) (some 17) rfl rfl (by kernel_rfl) (by kernel_rfl) (by kernel_rfl) (fun _ _ _ h => h) (Or.inr ⟨by rfl, rfl⟩) ?_
    try simp only [Act.put, List.setIfInBounds_toArray, List.set_cons_zero, List.set_cons_succ]
    refine wpAnyE_take (i := 13) (v := undef) (some 18) rfl rfl (by kernel_rfl) (by kernel_rfl) (by kernel_rfl) (fun _ _ _ h => h) (Or.inr ⟨by rfl, rfl⟩) ?_
    try simp only [Act.put, List.setIfInBounds_toArray, List.set_cons_zero, List.set_cons_succ]
    refine wpAnyE_take (i := 14) (v := undef) (some 19) rfl rfl (by kernel_rfl) (by kernel_rfl) (by kernel_rfl) (fun _ _ _ h => h) (Or.inr ⟨by rfl, rfl⟩) ?_
    try simp only [Act.put, List.setIfInBounds_toArray, List.set_cons_zero, List.set_cons_succ]
    refine wpAnyE_take (i := 15) (v := undef) (some 20) rfl rfl (by kernel_rfl) (by kernel_rfl) (by kernel_rfl) (fun _ _ _ h => h) (Or.inr ⟨by rfl, rfl⟩) ?_
    try simp only [Act.put, List.setIfInBounds_toArray, List.set_cons_zero, List.set_cons_succ]
    refine wpAnyE_take (i := 16) (v := undef) (some 21) rfl rfl (by kernel_rfl) (by kernel_rfl) (by kernel_rfl) (fun _ _ _ h => h) (Or.inr ⟨by rfl, rfl⟩) ?_
    try simp only [Act.put, List.setIfInBounds_toArray, List.set_cons_zero, List.set_cons_succ]
    refine wpAnyE_take (i := 17) (v := undef) (some 22) rfl rfl (by kernel_rfl) (by kernel_rfl) (by kernel_rfl) (fun _ _ _ h => h) (Or.inr ⟨by rfl, rfl⟩) ?_
    try simp only [Act.put, List.setIfInBounds_toArray, List.set_cons_zero, List.set_cons_succ]
    refine wpAnyE_take (i := 18) (v := undef) (some 23) rfl rfl (by kernel_rfl) (by kernel_rfl) (by kernel_rfl) (fun _ _ _ h => h) (Or.inr ⟨by rfl, rfl⟩) ?_
    try simp only [Act.put, List.setIfInBounds_toArray, List.set_cons_zero, List.set_cons_succ]
    refine wpAnyE_take (i := 19) (v := undef) (some 24) rfl rfl (by kernel_rfl) (by kernel_rfl) (by kernel_rfl) (fun _ _ _ h => h) (Or.inr ⟨by rfl, rfl⟩) ?_
    try simp only [Act.put, List.setIfInBounds_toArray, List.set_cons_zero, List.set_cons_succ]
    refine wpAnyE_take (i := 20) (v := ?_) (some 25) rfl rfl (by kernel_rfl) (by kernel_rfl) (by kernel_rfl) (fun _ _ _ h => h) ?_ ?_
    rotate_left 1
    · (refine Or.inl ⟨by rfl, ?_⟩; intro w' hw'; have hq := below_via hcur hw'; have hq_e0 := Ext.trans e0 hw'; have hz_l1 := l1 _ hq_e0; have hz_l2 := l2 _ hq_e0; (try go_simp); (try rfl); done)
    try simp only [Act.put, List.setIfInBounds_toArray, List.set_cons_zero, List.set_cons_succ]
    refine wpAnyE_take (i := 21) (v := ?_) (some 4) rfl rfl (by kernel_rfl) (by kernel_rfl) (by kernel_rfl) (fun _ _ _ h => h) ?_ ?_
    rotate_left 1
    · (refine Or.inl ⟨by rfl, ?_⟩; intro w' hw'; have hq := below_via hcur hw'; have hq_e0 := Ext.trans e0 hw'; have hz_l1 := l1 _ hq_e0; have hz_l2 := l2 _ hq_e0; (try go_simp); (try rfl); done)
    try simp only [Act.put, List.setIfInBounds_toArray, List.set_cons_zero, List.set_cons_succ]
    refine wpAnyE_done (by kernel_rfl) ?_ _
    go_wp2_with fail
    go_ret
    exact ⟨by rw [hml.out]; rfl, hcur⟩
  · have hd : decide (a = b) = false := decide_eq_false hab
    rw [hd] at ke hml
    clear hab hd
    generalize hashL k a = xa at *
    generalize hashL k b = xb at *
    go_enter Try.func17, Try.ntmps17
    go_wp2_with fail
    generalize World.alloc w _ = W at *
    have hcur : Below w.heap.size w W := e1
    have e0 := Ext.refl W
    refine wp_region_E (by kernel_rfl) ?_
    replace hcur := below_via hcur (ext_drew _)
    replace e0 := Ext.trans e0 (ext_drew _)
    refine wpAnyE_take (i := 0) (v := ?_) (some 5) rfl rfl (by kernel_rfl) (by kernel_rfl) (by kernel_rfl) (fun _ _ _ h => h) ?_ ?_
    rotate_left 1
    · (refine Or.inl ⟨by rfl, ?_⟩; intro w' hw'; have hq := below_via hcur hw'; have hq_e0 := Ext.trans e0 hw'; have hz_l1 := l1 _ hq_e0; have hz_l2 := l2 _ hq_e0; (try go_simp); (try rfl); done)
    try simp only [Act.put, List.setIfInBounds_toArray, List.set_cons_zero, List.set_cons_succ]
    refine wpAnyE_take (i := 1) (v := ?_) (some 6) rfl rfl (by kernel_rfl) (by kernel_rfl) (by kernel_rfl) (fun _ _ _ h => h) ?_ ?_
    rotate_left 1
    · (refine Or.inl ⟨by rfl, ?_⟩; intro w' hw'; have hq := below_via hcur hw'; have hq_e0 := Ext.trans e0 hw'; have hz_l1 := l1 _ hq_e0; have hz_l2 := l2 _ hq_e0; (try go_simp); (try rfl); done)
    try simp only [Act.put, List.setIfInBounds_toArray, List.set_cons_zero, List.set_cons_succ]
    refine wpAnyE_take (i := 2) (v := ?_) (some 7) rfl rfl (by kernel_rfl) (by kernel_rfl) (by kernel_rfl) (fun _ _ _ h => h) ?_ ?_
    rotate_left 1
    · (refine Or.inl ⟨by rfl, ?_⟩; intro w' hw'; have hq := below_via hcur hw'; have hq_e0 := Ext.trans e0 hw'; have hz_l1 := l1 _ hq_e0; have hz_l2 := l2 _ hq_e0; (try go_simp); (try rfl); done)
    try simp only [Act.put, List.setIfInBounds_toArray, List.set_cons_zero, List.set_cons_succ]
    refine wpAnyE_take (i := 3) (v := ?_) (some 8) rfl rfl (by kernel_rfl) (by kernel_rfl) (by kernel_rfl) (fun _ _ _ h => h) ?_ ?_
    rotate_left 1
    · (refine Or.inl ⟨by rfl, ?_⟩; intro w' hw'; have hq := below_via hcur hw'; have hq_e0 := Ext.trans e0 hw'; have hz_l1 := l1 _ hq_e0; have hz_l2 := l2 _ hq_e0; (try go_simp); (try rfl); done)
    try simp only [Act.put, List.setIfInBounds_toArray, List.set_cons_zero, List.set_cons_succ]
    refine wpAnyE_take (i := 4) (v := ?_) (some 9) rfl rfl (by kernel_rfl) (by kernel_rfl) (by kernel_rfl) (fun _ _ _ h => h) ?_ ?_
    rotate_left 1
    · (refine Or.inl ⟨by rfl, ?_⟩; intro w' hw'; have hq := below_via hcur hw'; have hq_e0 := Ext.trans e0 hw'; have hz_l1 := l1 _ hq_e0; have hz_l2 := l2 _ hq_e0; (try go_simp); (try rfl); done)
    try simp only [Act.put, List.setIfInBounds_toArray, List.set_cons_zero, List.set_cons_succ]
    refine wpAnyE_take (i := 5) (v := ?_) (some 10) rfl rfl (by kernel_rfl) (by kernel_rfl) (by kernel_rfl) (fun _ _ _ h => h) ?_ ?_
    rotate_left 1
    · (refine Or.inl ⟨by rfl, ?_⟩; intro w' hw'; have hq := below_via hcur hw'; have hq_e0 := Ext.trans e0 hw'; have hz_l1 := l1 _ hq_e0; have hz_l2 := l2 _ hq_e0; (try go_simp); (try rfl); done)
    try simp only [Act.put, List.setIfInBounds_toArray, List.set_cons_zero, List.set_cons_succ]
    refine wpAnyE_take (i := 6) (v := ?_) (some 11) rfl rfl (by kernel_rfl) (by kernel_rfl) (by kernel_rfl) (fun _ _ _ h => h) ?_ ?_
    rotate_left 1
    · (refine Or.inl ⟨by rfl, ?_⟩; intro w' hw'; have hq := below_via hcur hw'; have hq_e0 := Ext.trans e0 hw'; have hz_l1 := l1 _ hq_e0; have hz_l2 := l2 _ hq_e0; (try go_simp); (try rfl); done)
    try simp only [Act.put, List.setIfInBounds_toArray, List.set_cons_zero, List.set_cons_succ]
    refine wpAnyE_one (i := 7) rfl (by kernel_rfl) (by rfl) (fun K hK => ?_)
    go_simp
    (with_reducible refine (ke _ e0).mono ?_); rintro e w5 ⟨rfl, rfl⟩
    refine hK.out _ _ (Ext.refl _) ?_
    clear hK K
    try simp only [Act.put, List.setIfInBounds_toArray, List.set_cons_zero, List.set_cons_succ]
    refine wpAnyE_take (i := 8) (v := ?_) (some 13) rfl rfl (by kernel_rfl) (by kernel_rfl) (by kernel_rfl) (fun _ _ _ h => h) ?_ ?_
    rotate_left 1
    · (refine Or.inl ⟨by rfl, ?_⟩; intro w' hw'; have hq := below_via hcur hw'; have hq_e0 := Ext.trans e0 hw'; have hz_l1 := l1 _ hq_e0; have hz_l2 := l2 _ hq_e0; (try go_simp); (try rfl); done)
    try simp only [Act.put, List.setIfInBounds_toArray, List.set_cons_zero, List.set_cons_succ]
    refine wpAnyE_take (i := 9) (v := ?_) (some 14) rfl rfl (by kernel_rfl) (by kernel_rfl) (by kernel_rfl) (fun _ _ _ h => h) ?_ ?_
    rotate_left 1
    · (refine Or.inl ⟨by rfl, ?_⟩; intro w' hw'; have hq := below_via hcur hw'; have hq_e0 := Ext.trans e0 hw'; have hz_l1 := l1 _ hq_e0; have hz_l2 := l2 _ hq_e0; (try go_simp); (try rfl); done)
    try simp only [Act.put, List.setIfInBounds_toArray, List.set_cons_zero, List.set_cons_succ]
    refine wpAnyE_take (i := 10) (v := ?_) (some 15) rfl rfl (by kernel_rfl) (by kernel_rfl) (by kernel_rfl) (fun _ _ _ h => h) ?_ ?_
    rotate_left 1
    · (refine Or.inl ⟨by rfl, ?_⟩; intro w' hw'; have hq := below_via hcur hw'; have hq_e0 := Ext.trans e0 hw'; have hz_l1 := l1 _ hq_e0; have hz_l2 := l2 _ hq_e0; (try go_simp); (try rfl); done)
    try simp only [Act.put, List.setIfInBounds_toArray, List.set_cons_zero, List.set_cons_succ]
    refine wpAnyE_take (i := 11) (v := ?_) (some 16) rfl rfl (by kernel_rfl) (by kernel_rfl) (by kernel_rfl) (fun _ _ _ h => h) ?_ ?_
    rotate_left 1
    · (refine Or.inl ⟨by rfl, ?_⟩; intro w' hw'; have hq := below_via hcur hw'; have hq_e0 := Ext.trans e0 hw'; have hz_l1 := l1 _ hq_e0; have hz_l2 := l2 _ hq_e0; (try go_simp); (try rfl); done)
    try simp only [Act.put, List.setIfInBounds_toArray, List.set_cons_zero, List.set_cons_succ]
    refine wpAnyE_take (i := 12) (v := ?_) (some 17) rfl rfl (by kernel_rfl) (by kernel_rfl) (by kernel_rfl) (fun _ _ _ h => h) ?_ ?_
    rotate_left 1
    · (refine Or.inl ⟨by rfl, ?_⟩; intro w' hw'; have hq := below_via hcur hw'; have hq_e0 := Ext.trans e0 hw'; have hz_l1 := l1 _ hq_e0; have hz_l2 := l2 _ hq_e0; (try go_simp); (try rfl); done)
    try simp only [Act.put, List.setIfInBounds_toArray, List.set_cons_zero, List.set_cons_succ]
    refine wpAnyE_take (i := 13) (v := ?_) (some 18) rfl rfl (by kernel_rfl) (by kernel_rfl) (by kernel_rfl) (fun _ _ _ h => h) ?_ ?_
    rotate_left 1
    · (refine Or.inl ⟨by rfl, ?_⟩; intro w' hw'; have hq := below_via hcur hw'; have hq_e0 := Ext.trans e0 hw'; have hz_l1 := l1 _ hq_e0; have hz_l2 := l2 _ hq_e0; (try go_simp); (try rfl); done)
    try simp only [Act.put, List.setIfInBounds_toArray, List.set_cons_zero, List.set_cons_succ]
    refine wpAnyE_take (i := 15) (v := ?_) (some 20) rfl rfl (by kernel_rfl) (by kernel_rfl) (by kernel_rfl) (fun _ _ _ h => h) ?_ ?_
    rotate_left 1
    · (refine Or.inl ⟨by rfl, ?_⟩; intro w' hw'; have hq := below_via hcur hw'; have hq_e0 := Ext.trans e0 hw'; have hz_l1 := l1 _ hq_e0; have hz_l2 := l2 _ hq_e0; (try go_simp); (try rfl); done)
    try simp only [Act.put, List.setIfInBounds_toArray, List.set_cons_zero, List.set_cons_succ]
    refine wpAnyE_take (i := 16) (v := ?_) (some 21) rfl rfl (by kernel_rfl) (by kernel_rfl) (by kernel_rfl) (fun _ _ _ h => h) ?_ ?_
    rotate_left 1
    · (refine Or.inl ⟨by rfl, ?_⟩; intro w' hw'; have hq := below_via hcur hw'; have hq_e0 := Ext.trans e0 hw'; have hz_l1 := l1 _ hq_e0; have hz_l2 := l2 _ hq_e0; (try go_simp); (try rfl); done)
    try simp only [Act.put, List.setIfInBounds_toArray, List.set_cons_zero, List.set_cons_succ]
    refine wpAnyE_take (i := 17) (v := ?_) (some 22) rfl rfl (by kernel_rfl) (by kernel_rfl) (by kernel_rfl) (fun _ _ _ h => h) ?_ ?_
    rotate_left 1
    · (refine Or.inl ⟨by rfl, ?_⟩; intro w' hw'; have hq := below_via hcur hw'; have hq_e0 := Ext.trans e0 hw'; have hz_l1 := l1 _ hq_e0; have hz_l2 := l2 _ hq_e0; (try go_simp); (try rfl); done)
    try simp only [Act.put, List.setIfInBounds_toArray, List.set_cons_zero, List.set_cons_succ]
    refine wpAnyE_one (i := 14) rfl (by kernel_rfl) (by rfl) (fun K hK => ?_)
    go_simp
    (with_reducible refine (ka _ e0).mono ?_); rintro e w6 ⟨rfl, hb⟩
    refine hK.out _ _ hb ?_
    replace hcur := below_via hcur hb; clear hK K
    replace e0 := Ext.trans e0 hb
    try simp only [Act.put, List.setIfInBounds_toArray, List.set_cons_zero, List.set_cons_succ]
    refine wpAnyE_one (i := 18) rfl (by kernel_rfl) (by rfl) (fun K hK => ?_)
    go_simp
    (with_reducible refine (kb _ e0).mono ?_); rintro e w7 ⟨rfl, hb⟩
    refine hK.out _ _ hb ?_
    replace hcur := below_via hcur hb; clear hK K
    replace e0 := Ext.trans e0 hb
    try simp only [Act.put, List.setIfInBounds_toArray, List.set_cons_zero, List.set_cons_succ]
    refine wpAnyE_take (i := 19) (v := ?_) (some 24) rfl rfl (by kernel_rfl) (by kernel_rfl) (by kernel_rfl) (fun _ _ _ h => h) ?_ ?_
    rotate_left 1
    · (refine Or.inl ⟨by rfl, ?_⟩; intro w' hw'; have hq := below_via hcur hw'; have hq_e0 := Ext.trans e0 hw'; have hz_l1 := l1 _ hq_e0; have hz_l2 := l2 _ hq_e0; (try go_simp); (try rfl); done)
    try simp only [Act.put, List.setIfInBounds_toArray, List.set_cons_zero, List.set_cons_succ]
    refine wpAnyE_take (i := 20) (v := ?_) (some 25) rfl rfl (by kernel_rfl) (by kernel_rfl) (by kernel_rfl) (fun _ _ _ h => h) ?_ ?_
    rotate_left 1
    · (refine Or.inl ⟨by rfl, ?_⟩; intro w' hw'; have hq := below_via hcur hw'; have hq_e0 := Ext.trans e0 hw'; have hz_l1 := l1 _ hq_e0; have hz_l2 := l2 _ hq_e0; (try go_simp); (try rfl); done)
    try simp only [Act.put, List.setIfInBounds_toArray, List.set_cons_zero, List.set_cons_succ]
    refine wpAnyE_take (i := 21) (v := ?_) (some 4) rfl rfl (by kernel_rfl) (by kernel_rfl) (by kernel_rfl) (fun _ _ _ h => h) ?_ ?_
    rotate_left 1
    · (refine Or.inl ⟨by rfl, ?_⟩; intro w' hw'; have hq := below_via hcur hw'; have hq_e0 := Ext.trans e0 hw'; have hz_l1 := l1 _ hq_e0; have hz_l2 := l2 _ hq_e0; (try go_simp); (try rfl); done)
    try simp only [Act.put, List.setIfInBounds_toArray, List.set_cons_zero, List.set_cons_succ]
    refine wpAnyE_done (by kernel_rfl) ?_ _
    go_wp2_with fail
    go_ret
    exact ⟨by rw [hml.out]; simp, hcur⟩
end Go.Proofs.Ytnpbapefjbfndaa
