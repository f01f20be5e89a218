/- Consistent of the reference (walk). -/
import Derived.Test.YtnpbapefjbfndaaZExrG
set_option linter.unusedVariables false
set_option linter.unusedSimpArgs false
set_option maxRecDepth 10000
namespace Go.Proofs.Ytnpbapefjbfndaa
open Go.RowKit
attribute [local go_sem high] dg_cells guard_dg wy_cells rs_l rs_lh rs_lhm rs_h rs_hm rs_all

set_option maxHeartbeats 4000000 in
theorem rconsistent_no (k : Nat) (hk : k ≤ 256) (vl : Value) (l : List (List UInt8)) (m : Int) (old : List UInt8) (ol : old.length = 32) (vp : Value) (w : World) (hm1 : -9223372036854775808 ≤ m) (hm2 : m ≤ 9223372036854775807)
    (hl : SlX w vl l) (hll : l.length ≤ 1048576) (hz : ∀ z ∈ l, z.length ≤ 1048576) (hn : m < 1 ∨ (l.length : Int) < m ∨ old = rootX k (l.take m.toNat)) :
    Calls Try.prog 24 #[.int .i64 k, vl, .int .i64 m, dg old, vp] w fun e w' => ∃ v, e = .returned (.tuple #[v, .bool false]) ∧ PairAt w' v none ∧ Below w.heap.size w w' := by
  obtain ⟨A, c, rfl, hc, hcm⟩ := hl.len
  obtain ⟨h3, h4, b2, z2⟩ := alloc2 (w := w) (o1 := .cells (bs old).toArray 38 (0, 0)) (o2 := .cells #[.slice none 0 0, .slice none 0 0] 33 (0, 0)) rfl
  have hO : RowT 38 _ w.heap.size old := h3
  have hR : PR 33 _ (w.heap.size + 1) (.slice none 0 0) (.slice none 0 0) := h4
  clear h3 h4 z2
  by_cases h3 : m < 1
  · have d1 : decide (m < 1) = true := decide_eq_true h3
    change Calls _ _ #[_, _, _, .agg (bs old).toArray, _] _ _
    go_enter Try.func24, Try.ntmps24
    go_wp2_with fail
    generalize World.alloc (World.alloc w _) _ = W at *
    have hcur : Below w.heap.size w W := b2
    have e0 := Ext.refl W
    refine wp_region_E (by kernel_rfl) ?_
    replace hcur := below_via hcur (ext_drew _)
    replace e0 := Ext.trans e0 (ext_drew _)
    refine wpAnyE_take (i := 0) (v := ?_) (some 13) rfl rfl (by kernel_rfl) (by kernel_rfl) (by kernel_rfl) (fun _ _ _ h => h) ?_ ?_
    rotate_left 1
    · (refine Or.inl ⟨by rfl, ?_⟩; intro w' hw'; have hq := below_via hcur hw'; have hq_e0 := Ext.trans e0 hw'; (try go_simp); (try rfl); done)
    try simp only [Act.put, List.setIfInBounds_toArray, List.set_cons_zero, List.set_cons_succ]
    refine wpAnyE_take (i := 1) (v := ?_) (some 14) rfl rfl (by kernel_rfl) (by kernel_rfl) (by kernel_rfl) (fun _ _ _ h => h) ?_ ?_
    rotate_left 1
    · (refine Or.inl ⟨by rfl, ?_⟩; intro w' hw'; have hq := below_via hcur hw'; have hq_e0 := Ext.trans e0 hw'; (try go_simp); (try rfl); done)
    try simp only [Act.put, List.setIfInBounds_toArray, List.set_cons_zero, List.set_cons_succ]
    refine wpAnyE_take (i := 2) (v := ?_) (some 15) rfl rfl (by kernel_rfl) (by kernel_rfl) (by kernel_rfl) (fun _ _ _ h => h) ?_ ?_
    rotate_left 1
    · (refine Or.inl ⟨by rfl, ?_⟩; intro w' hw'; have hq := below_via hcur hw'; have hq_e0 := Ext.trans e0 hw'; (try go_simp); (try rfl); done)
    try simp only [Act.put, List.setIfInBounds_toArray, List.set_cons_zero, List.set_cons_succ]
    refine wpAnyE_take (i := 3) (v := undef) (some 16) rfl rfl (by kernel_rfl) (by kernel_rfl) (by kernel_rfl) (fun _ _ _ h => h) (Or.inr ⟨by rfl, rfl⟩) ?_
    try simp only [Act.put, List.setIfInBounds_toArray, List.set_cons_zero, List.set_cons_succ]
    refine wpAnyE_take (i := 4) (v := undef) (some 17) rfl rfl (by kernel_rfl) (by kernel_rfl) (by kernel_rfl) (fun _ _ _ h => h) (Or.inr ⟨by rfl, rfl⟩) ?_
    try simp only [Act.put, List.setIfInBounds_toArray, List.set_cons_zero, List.set_cons_succ]
    refine wpAnyE_take (i := 5) (v := undef) (some 18) rfl rfl (by kernel_rfl) (by kernel_rfl) (by kernel_rfl) (fun _ _ _ h => h) (Or.inr ⟨by rfl, rfl⟩) ?_
    try simp only [Act.put, List.setIfInBounds_toArray, List.set_cons_zero, List.set_cons_succ]
    refine wpAnyE_take (i := 6) (v := undef) (some 19) rfl rfl (by kernel_rfl) (by kernel_rfl) (by kernel_rfl) (fun _ _ _ h => h) (Or.inr ⟨by rfl, rfl⟩) ?_
    try simp only [Act.put, List.setIfInBounds_toArray, List.set_cons_zero, List.set_cons_succ]
    refine wpAnyE_take (i := 7) (v := ?_) (some 20) rfl rfl (by kernel_rfl) (by kernel_rfl) (by kernel_rfl) (fun _ _ _ h => h) ?_ ?_
    rotate_left 1
    · (refine Or.inl ⟨by rfl, ?_⟩; intro w' hw'; have hq := below_via hcur hw'; have hq_e0 := Ext.trans e0 hw'; (try go_simp); (try rfl); done)
    try simp only [Act.put, List.setIfInBounds_toArray, List.set_cons_zero, List.set_cons_succ]
    refine wpAnyE_take (i := 8) (v := ?_) (some 21) rfl rfl (by kernel_rfl) (by kernel_rfl) (by kernel_rfl) (fun _ _ _ h => h) ?_ ?_
    rotate_left 1
    · (refine Or.inl ⟨by rfl, ?_⟩; intro w' hw'; have hq := below_via hcur hw'; have hq_e0 := Ext.trans e0 hw'; (try go_simp); (try rfl); done)
    try simp only [Act.put, List.setIfInBounds_toArray, List.set_cons_zero, List.set_cons_succ]
    refine wpAnyE_take (i := 9) (v := undef) (some 22) rfl rfl (by kernel_rfl) (by kernel_rfl) (by kernel_rfl) (fun _ _ _ h => h) (Or.inr ⟨by rfl, rfl⟩) ?_
    try simp only [Act.put, List.setIfInBounds_toArray, List.set_cons_zero, List.set_cons_succ]
    refine wpAnyE_take (i := 10) (v := undef) (some 23) rfl rfl (by kernel_rfl) (by kernel_rfl) (by kernel_rfl) (fun _ _ _ h => h) (Or.inr ⟨by rfl, rfl⟩) ?_
    try simp only [Act.put, List.setIfInBounds_toArray, List.set_cons_zero, List.set_cons_succ]
    refine wpAnyE_take (i := 11) (v := undef) (some 24) rfl rfl (by kernel_rfl) (by kernel_rfl) (by kernel_rfl) (fun _ _ _ h => h) (Or.inr ⟨by rfl, rfl⟩) ?_
    try simp only [Act.put, List.setIfInBounds_toArray, List.set_cons_zero, List.set_cons_succ]
    refine wpAnyE_take (i := 12) (v := undef) (some 25) rfl rfl (by kernel_rfl) (by kernel_rfl) (by kernel_rfl) (fun _ _ _ h => h) (Or.inr ⟨by rfl, rfl⟩) ?_
    try simp only [Act.put, List.setIfInBounds_toArray, List.set_cons_zero, List.set_cons_succ]
    refine wpAnyE_take (i := 13) (v := undef) (some 26) rfl rfl (by kernel_rfl) (by kernel_rfl) (by kernel_rfl) (fun _ _ _ h => h) (Or.inr ⟨by rfl, rfl⟩) ?_
    try simp only [Act.put, List.setIfInBounds_toArray, List.set_cons_zero, List.set_cons_succ]
    refine wpAnyE_take (i := 14) (v := undef) (some 27) rfl rfl (by kernel_rfl) (by kernel_rfl) (by kernel_rfl) (fun _ _ _ h => h) (Or.inr ⟨by rfl, rfl⟩) ?_
    try simp only [Act.put, List.setIfInBounds_toArray, List.set_cons_zero, List.set_cons_succ]
    refine wpAnyE_take (i := 15) (v := undef) (some 28) rfl rfl (by kernel_rfl) (by kernel_rfl) (by kernel_rfl) (fun _ _ _ h => h) (Or.inr ⟨by rfl, rfl⟩) ?_
    try simp only [Act.put, List.setIfInBounds_toArray, List.set_cons_zero, List.set_cons_succ]
    refine wpAnyE_take (i := 16) (v := ?_) (some 29) rfl rfl (by kernel_rfl) (by kernel_rfl) (by kernel_rfl) (fun _ _ _ h => h) ?_ ?_
    rotate_left 1
    · (refine Or.inl ⟨by rfl, ?_⟩; intro w' hw'; have hq := below_via hcur hw'; have hq_e0 := Ext.trans e0 hw'; (try go_simp); (try rfl); done)
    try simp only [Act.put, List.setIfInBounds_toArray, List.set_cons_zero, List.set_cons_succ]
    refine wpAnyE_done (by kernel_rfl) ?_ _
    have hR' := hR.below e0
    have hcur' := hcur
    generalize World.drew W = W1 at *
    have hR1 := hR'.set0 (.slice none 0 0)
    have hR2 := hR1.set1 (.slice none 0 0)
    have c0 := hR'.c0
    have c1 := hR1.c1
    have hret := hR2.rload rfl rfl
    have bz : Below w.heap.size w _ := below_setCell (k := 1) (below_setCell (k := 0) hcur (Nat.le_succ w.heap.size) (.slice none 0 0)) (Nat.le_succ w.heap.size) (.slice none 0 0)
    go_wp2_with fail
    exact ret_cell2 (v := .agg #[.slice none 0 0, .slice none 0 0]) Try.results24 rfl hret rfl ⟨_, rfl, ⟨_, _, rfl, slB_nil _, slB_nil _⟩, bz⟩
  · by_cases h4 : (l.length : Int) < m
    · have d1 : decide (m < 1) = false := decide_eq_false h3
      have d2 : decide ((l.length : Int) < m) = true := decide_eq_true h4
      change Calls _ _ #[_, _, _, .agg (bs old).toArray, _] _ _
      go_enter Try.func24, Try.ntmps24
      go_wp2_with fail
      generalize World.alloc (World.alloc w _) _ = W at *
      have hcur : Below w.heap.size w W := b2
      have e0 := Ext.refl W
      refine wp_region_E (by kernel_rfl) ?_
      replace hcur := below_via hcur (ext_drew _)
      replace e0 := Ext.trans e0 (ext_drew _)
      refine wpAnyE_take (i := 0) (v := ?_) (some 13) rfl rfl (by kernel_rfl) (by kernel_rfl) (by kernel_rfl) (fun _ _ _ h => h) ?_ ?_
      rotate_left 1
      · (refine Or.inl ⟨by rfl, ?_⟩; intro w' hw'; have hq := below_via hcur hw'; have hq_e0 := Ext.trans e0 hw'; (try go_simp); (try rfl); done)
      try simp only [Act.put, List.setIfInBounds_toArray, List.set_cons_zero, List.set_cons_succ]
      refine wpAnyE_take (i := 1) (v := ?_) (some 14) rfl rfl (by kernel_rfl) (by kernel_rfl) (by kernel_rfl) (fun _ _ _ h => h) ?_ ?_
      rotate_left 1
      · (refine Or.inl ⟨by rfl, ?_⟩; intro w' hw'; have hq := below_via hcur hw'; have hq_e0 := Ext.trans e0 hw'; (try go_simp); (try rfl); done)
      try simp only [Act.put, List.setIfInBounds_toArray, List.set_cons_zero, List.set_cons_succ]
      refine wpAnyE_take (i := 2) (v := ?_) (some 15) rfl rfl (by kernel_rfl) (by kernel_rfl) (by kernel_rfl) (fun _ _ _ h => h) ?_ ?_
      rotate_left 1
      · (refine Or.inl ⟨by rfl, ?_⟩; intro w' hw'; have hq := below_via hcur hw'; have hq_e0 := Ext.trans e0 hw'; (try go_simp); (try rfl); done)
      try simp only [Act.put, List.setIfInBounds_toArray, List.set_cons_zero, List.set_cons_succ]
      refine wpAnyE_take (i := 3) (v := ?_) (some 16) rfl rfl (by kernel_rfl) (by kernel_rfl) (by kernel_rfl) (fun _ _ _ h => h) ?_ ?_
      rotate_left 1
      · (refine Or.inl ⟨by rfl, ?_⟩; intro w' hw'; have hq := below_via hcur hw'; have hq_e0 := Ext.trans e0 hw'; (try go_simp); (try rfl); done)
      try simp only [Act.put, List.setIfInBounds_toArray, List.set_cons_zero, List.set_cons_succ]
      refine wpAnyE_take (i := 4) (v := ?_) (some 17) rfl rfl (by kernel_rfl) (by kernel_rfl) (by kernel_rfl) (fun _ _ _ h => h) ?_ ?_
      rotate_left 1
      · (refine Or.inl ⟨by rfl, ?_⟩; intro w' hw'; have hq := below_via hcur hw'; have hq_e0 := Ext.trans e0 hw'; (try go_simp); (try rfl); done)
      try simp only [Act.put, List.setIfInBounds_toArray, List.set_cons_zero, List.set_cons_succ]
      refine wpAnyE_take (i := 5) (v := ?_) (some 18) rfl rfl (by kernel_rfl) (by kernel_rfl) (by kernel_rfl) (fun _ _ _ h => h) ?_ ?_
      rotate_left 1
      · (refine Or.inl ⟨by rfl, ?_⟩; intro w' hw'; have hq := below_via hcur hw'; have hq_e0 := Ext.trans e0 hw'; (try go_simp); (try rfl); done)
      try simp only [Act.put, List.setIfInBounds_toArray, List.set_cons_zero, List.set_cons_succ]
      refine wpAnyE_take (i := 6) (v := ?_) (some 19) rfl rfl (by kernel_rfl) (by kernel_rfl) (by kernel_rfl) (fun _ _ _ h => h) ?_ ?_
      rotate_left 1
      · (refine Or.inl ⟨by rfl, ?_⟩; intro w' hw'; have hq := below_via hcur hw'; have hq_e0 := Ext.trans e0 hw'; (try go_simp); (try rfl); done)
      try simp only [Act.put, List.setIfInBounds_toArray, List.set_cons_zero, List.set_cons_succ]
      refine wpAnyE_take (i := 7) (v := ?_) (some 20) rfl rfl (by kernel_rfl) (by kernel_rfl) (by kernel_rfl) (fun _ _ _ h => h) ?_ ?_
      rotate_left 1
      · (refine Or.inl ⟨by rfl, ?_⟩; intro w' hw'; have hq := below_via hcur hw'; have hq_e0 := Ext.trans e0 hw'; (try go_simp); (try rfl); done)
      try simp only [Act.put, List.setIfInBounds_toArray, List.set_cons_zero, List.set_cons_succ]
      refine wpAnyE_take (i := 8) (v := ?_) (some 21) rfl rfl (by kernel_rfl) (by kernel_rfl) (by kernel_rfl) (fun _ _ _ h => h) ?_ ?_
      rotate_left 1
      · (refine Or.inl ⟨by rfl, ?_⟩; intro w' hw'; have hq := below_via hcur hw'; have hq_e0 := Ext.trans e0 hw'; (try go_simp); (try rfl); done)
      try simp only [Act.put, List.setIfInBounds_toArray, List.set_cons_zero, List.set_cons_succ]
      refine wpAnyE_take (i := 9) (v := undef) (some 22) rfl rfl (by kernel_rfl) (by kernel_rfl) (by kernel_rfl) (fun _ _ _ h => h) (Or.inr ⟨by rfl, rfl⟩) ?_
      try simp only [Act.put, List.setIfInBounds_toArray, List.set_cons_zero, List.set_cons_succ]
      refine wpAnyE_take (i := 10) (v := undef) (some 23) rfl rfl (by kernel_rfl) (by kernel_rfl) (by kernel_rfl) (fun _ _ _ h => h) (Or.inr ⟨by rfl, rfl⟩) ?_
      try simp only [Act.put, List.setIfInBounds_toArray, List.set_cons_zero, List.set_cons_succ]
      refine wpAnyE_take (i := 11) (v := undef) (some 24) rfl rfl (by kernel_rfl) (by kernel_rfl) (by kernel_rfl) (fun _ _ _ h => h) (Or.inr ⟨by rfl, rfl⟩) ?_
      try simp only [Act.put, List.setIfInBounds_toArray, List.set_cons_zero, List.set_cons_succ]
      refine wpAnyE_take (i := 12) (v := undef) (some 25) rfl rfl (by kernel_rfl) (by kernel_rfl) (by kernel_rfl) (fun _ _ _ h => h) (Or.inr ⟨by rfl, rfl⟩) ?_
      try simp only [Act.put, List.setIfInBounds_toArray, List.set_cons_zero, List.set_cons_succ]
      refine wpAnyE_take (i := 13) (v := undef) (some 26) rfl rfl (by kernel_rfl) (by kernel_rfl) (by kernel_rfl) (fun _ _ _ h => h) (Or.inr ⟨by rfl, rfl⟩) ?_
      try simp only [Act.put, List.setIfInBounds_toArray, List.set_cons_zero, List.set_cons_succ]
      refine wpAnyE_take (i := 14) (v := undef) (some 27) rfl rfl (by kernel_rfl) (by kernel_rfl) (by kernel_rfl) (fun _ _ _ h => h) (Or.inr ⟨by rfl, rfl⟩) ?_
      try simp only [Act.put, List.setIfInBounds_toArray, List.set_cons_zero, List.set_cons_succ]
      refine wpAnyE_take (i := 15) (v := undef) (some 28) rfl rfl (by kernel_rfl) (by kernel_rfl) (by kernel_rfl) (fun _ _ _ h => h) (Or.inr ⟨by rfl, rfl⟩) ?_
      try simp only [Act.put, List.setIfInBounds_toArray, List.set_cons_zero, List.set_cons_succ]
      refine wpAnyE_take (i := 16) (v := ?_) (some 29) rfl rfl (by kernel_rfl) (by kernel_rfl) (by kernel_rfl) (fun _ _ _ h => h) ?_ ?_
      rotate_left 1
      · (refine Or.inl ⟨by rfl, ?_⟩; intro w' hw'; have hq := below_via hcur hw'; have hq_e0 := Ext.trans e0 hw'; (try go_simp); (try rfl); done)
      try simp only [Act.put, List.setIfInBounds_toArray, List.set_cons_zero, List.set_cons_succ]
      refine wpAnyE_done (by kernel_rfl) ?_ _
      have hR' := hR.below e0
      have hcur' := hcur
      generalize World.drew W = W1 at *
      have hR1 := hR'.set0 (.slice none 0 0)
      have hR2 := hR1.set1 (.slice none 0 0)
      have c0 := hR'.c0
      have c1 := hR1.c1
      have hret := hR2.rload rfl rfl
      have bz : Below w.heap.size w _ := below_setCell (k := 1) (below_setCell (k := 0) hcur (Nat.le_succ w.heap.size) (.slice none 0 0)) (Nat.le_succ w.heap.size) (.slice none 0 0)
      go_wp2_with fail
      exact ret_cell2 (v := .agg #[.slice none 0 0, .slice none 0 0]) Try.results24 rfl hret rfl ⟨_, rfl, ⟨_, _, rfl, slB_nil _, slB_nil _⟩, bz⟩
    · obtain ⟨n, rfl⟩ : ∃ n : Nat, m = n := ⟨m.toNat, by omega⟩
      have hr : old = rootX k (l.take n) := by
        rcases hn with h | h | h
        · exact absurd h h3
        · exact absurd h h4
        · rw [Int.toNat_natCast] at h; exact h
      have hL0 := hl.slice 0 n (by omega) (by omega)
      simp only [List.drop_zero, Nat.sub_zero, slA_zero] at hL0
      have ka := fun w' (h : Ext w w') => rroot_any k hk (.slice A n c) (l.take n) w' (by rw [List.length_take]; omega) (fun z h => hz z (List.mem_of_mem_take h)) (hL0.below h)
      rw [← hr] at ka
      have qe := fun w' => arr_dg.eqlSelf old ol w'
      have d1 : decide ((n : Int) < 1) = false := decide_eq_false (by omega)
      have d1' : decide (n < 1) = false := decide_eq_false (by omega)
      have d2 : decide (l.length < n) = false := decide_eq_false (by omega)
      have i0 : (0 : Int) ≤ n := by omega
      have i1 : (n : Int) ≤ c := by omega
      have i2 : (n : Int) ≤ l.length := by omega
      clear hr hn
      change Calls _ _ #[_, _, _, .agg (bs old).toArray, _] _ _
      go_enter Try.func24, Try.ntmps24
      go_wp2_with fail
      generalize World.alloc (World.alloc w _) _ = W at *
      have hcur : Below w.heap.size w W := b2
      have e0 := Ext.refl W
      refine wp_region_E (by kernel_rfl) ?_
      replace hcur := below_via hcur (ext_drew _)
      replace e0 := Ext.trans e0 (ext_drew _)
      refine wpAnyE_take (i := 0) (v := ?_) (some 13) rfl rfl (by kernel_rfl) (by kernel_rfl) (by kernel_rfl) (fun _ _ _ h => h) ?_ ?_
      rotate_left 1
      · (refine Or.inl ⟨by rfl, ?_⟩; intro w' hw'; have hq := below_via hcur hw'; have hq_e0 := Ext.trans e0 hw'; (try go_simp); (try rfl); done)
      try simp only [Act.put, List.setIfInBounds_toArray, List.set_cons_zero, List.set_cons_succ]
      refine wpAnyE_take (i := 1) (v := ?_) (some 14) rfl rfl (by kernel_rfl) (by kernel_rfl) (by kernel_rfl) (fun _ _ _ h => h) ?_ ?_
      rotate_left 1
      · (refine Or.inl ⟨by rfl, ?_⟩; intro w' hw'; have hq := below_via hcur hw'; have hq_e0 := Ext.trans e0 hw'; (try go_simp); (try rfl); done)
      try simp only [Act.put, List.setIfInBounds_toArray, List.set_cons_zero, List.set_cons_succ]
      refine wpAnyE_take (i := 2) (v := ?_) (some 15) rfl rfl (by kernel_rfl) (by kernel_rfl) (by kernel_rfl) (fun _ _ _ h => h) ?_ ?_
      rotate_left 1
      · (refine Or.inl ⟨by rfl, ?_⟩; intro w' hw'; have hq := below_via hcur hw'; have hq_e0 := Ext.trans e0 hw'; (try go_simp); (try rfl); done)
      try simp only [Act.put, List.setIfInBounds_toArray, List.set_cons_zero, List.set_cons_succ]
      refine wpAnyE_take (i := 3) (v := ?_) (some 16) rfl rfl (by kernel_rfl) (by kernel_rfl) (by kernel_rfl) (fun _ _ _ h => h) ?_ ?_
      rotate_left 1
      · (refine Or.inl ⟨by rfl, ?_⟩; intro w' hw'; have hq := below_via hcur hw'; have hq_e0 := Ext.trans e0 hw'; (try go_simp); (try rfl); done)
      try simp only [Act.put, List.setIfInBounds_toArray, List.set_cons_zero, List.set_cons_succ]
      refine wpAnyE_take (i := 4) (v := ?_) (some 17) rfl rfl (by kernel_rfl) (by kernel_rfl) (by kernel_rfl) (fun _ _ _ h => h) ?_ ?_
      rotate_left 1
      · (refine Or.inl ⟨by rfl, ?_⟩; intro w' hw'; have hq := below_via hcur hw'; have hq_e0 := Ext.trans e0 hw'; (try go_simp); (try rfl); done)
      try simp only [Act.put, List.setIfInBounds_toArray, List.set_cons_zero, List.set_cons_succ]
      refine wpAnyE_take (i := 5) (v := ?_) (some 18) rfl rfl (by kernel_rfl) (by kernel_rfl) (by kernel_rfl) (fun _ _ _ h => h) ?_ ?_
      rotate_left 1
      · (refine Or.inl ⟨by rfl, ?_⟩; intro w' hw'; have hq := below_via hcur hw'; have hq_e0 := Ext.trans e0 hw'; (try go_simp); (try rfl); done)
      try simp only [Act.put, List.setIfInBounds_toArray, List.set_cons_zero, List.set_cons_succ]
      refine wpAnyE_take (i := 6) (v := ?_) (some 19) rfl rfl (by kernel_rfl) (by kernel_rfl) (by kernel_rfl) (fun _ _ _ h => h) ?_ ?_
      rotate_left 1
      · (refine Or.inl ⟨by rfl, ?_⟩; intro w' hw'; have hq := below_via hcur hw'; have hq_e0 := Ext.trans e0 hw'; (try go_simp); (try rfl); done)
      try simp only [Act.put, List.setIfInBounds_toArray, List.set_cons_zero, List.set_cons_succ]
      refine wpAnyE_take (i := 7) (v := ?_) (some 20) rfl rfl (by kernel_rfl) (by kernel_rfl) (by kernel_rfl) (fun _ _ _ h => h) ?_ ?_
      rotate_left 1
      · (refine Or.inl ⟨by rfl, ?_⟩; intro w' hw'; have hq := below_via hcur hw'; have hq_e0 := Ext.trans e0 hw'; (try go_simp); (try rfl); done)
      try simp only [Act.put, List.setIfInBounds_toArray, List.set_cons_zero, List.set_cons_succ]
      refine wpAnyE_take (i := 8) (v := ?_) (some 21) rfl rfl (by kernel_rfl) (by kernel_rfl) (by kernel_rfl) (fun _ _ _ h => h) ?_ ?_
      rotate_left 1
      · (refine Or.inl ⟨by rfl, ?_⟩; intro w' hw'; have hq := below_via hcur hw'; have hq_e0 := Ext.trans e0 hw'; (try go_simp); (try rfl); done)
      try simp only [Act.put, List.setIfInBounds_toArray, List.set_cons_zero, List.set_cons_succ]
      refine wpAnyE_take (i := 9) (v := ?_) (some 22) rfl rfl (by kernel_rfl) (by kernel_rfl) (by kernel_rfl) (fun _ _ _ h => h) ?_ ?_
      rotate_left 1
      · (refine Or.inl ⟨by rfl, ?_⟩; intro w' hw'; have hq := below_via hcur hw'; have hq_e0 := Ext.trans e0 hw'; (refine arr_dg.ex (hO.below (Ext.trans e0 hw')) ol (.tmp 8) ?_ ?_ <;> rfl))
      try simp only [Act.put, List.setIfInBounds_toArray, List.set_cons_zero, List.set_cons_succ]
      refine wpAnyE_take (i := 10) (v := ?_) (some 23) rfl rfl (by kernel_rfl) (by kernel_rfl) (by kernel_rfl) (fun _ _ _ h => h) ?_ ?_
      rotate_left 1
      · (refine Or.inl ⟨by rfl, ?_⟩; intro w' hw'; have hq := below_via hcur hw'; have hq_e0 := Ext.trans e0 hw'; (try go_simp); (try rfl); done)
      try simp only [Act.put, List.setIfInBounds_toArray, List.set_cons_zero, List.set_cons_succ]
      refine wpAnyE_take (i := 11) (v := ?_) (some 24) rfl rfl (by kernel_rfl) (by kernel_rfl) (by kernel_rfl) (fun _ _ _ h => h) ?_ ?_
      rotate_left 1
      · (refine Or.inl ⟨by rfl, ?_⟩; intro w' hw'; have hq := below_via hcur hw'; have hq_e0 := Ext.trans e0 hw'; (try go_simp); (try rfl); done)
      try simp only [Act.put, List.setIfInBounds_toArray, List.set_cons_zero, List.set_cons_succ]
      refine wpAnyE_take (i := 12) (v := ?_) (some 25) rfl rfl (by kernel_rfl) (by kernel_rfl) (by kernel_rfl) (fun _ _ _ h => h) ?_ ?_
      rotate_left 1
      · (refine Or.inl ⟨by rfl, ?_⟩; intro w' hw'; have hq := below_via hcur hw'; have hq_e0 := Ext.trans e0 hw'; (try go_simp); (try rfl); done)
      try simp only [Act.put, List.setIfInBounds_toArray, List.set_cons_zero, List.set_cons_succ]
      refine wpAnyE_take (i := 13) (v := ?_) (some 26) rfl rfl (by kernel_rfl) (by kernel_rfl) (by kernel_rfl) (fun _ _ _ h => h) ?_ ?_
      rotate_left 1
      · (refine Or.inl ⟨by rfl, ?_⟩; intro w' hw'; have hq := below_via hcur hw'; have hq_e0 := Ext.trans e0 hw'; (try go_simp); (try rfl); done)
      try simp only [Act.put, List.setIfInBounds_toArray, List.set_cons_zero, List.set_cons_succ]
      refine wpAnyE_one (i := 14) rfl (by kernel_rfl) (by rfl) (fun K hK => ?_)
      go_simp
      have hka := ka _ hcur
      (with_reducible refine hka.mono ?_); rintro e w5 ⟨rfl, hb⟩
      clear hka
      refine hK.out _ _ hb ?_
      replace hcur := below_via hcur hb; clear hK K
      replace e0 := Ext.trans e0 hb
      try simp only [Act.put, List.setIfInBounds_toArray, List.set_cons_zero, List.set_cons_succ]
      refine wpAnyE_take (i := 15) (v := ?_) (some 28) rfl rfl (by kernel_rfl) (by kernel_rfl) (by kernel_rfl) (fun _ _ _ h => h) ?_ ?_
      rotate_left 1
      · (refine Or.inl ⟨by rfl, ?_⟩; intro w' hw'; have hq := below_via hcur hw'; have hq_e0 := Ext.trans e0 hw'; (try go_simp); (try rfl); done)
      try simp only [Act.put, List.setIfInBounds_toArray, List.set_cons_zero, List.set_cons_succ]
      refine wpAnyE_take (i := 16) (v := ?_) (some 29) rfl rfl (by kernel_rfl) (by kernel_rfl) (by kernel_rfl) (fun _ _ _ h => h) ?_ ?_
      rotate_left 1
      · (refine Or.inl ⟨by rfl, ?_⟩; intro w' hw'; have hq := below_via hcur hw'; have hq_e0 := Ext.trans e0 hw'; (try go_simp); (try rfl); done)
      try simp only [Act.put, List.setIfInBounds_toArray, List.set_cons_zero, List.set_cons_succ]
      refine wpAnyE_done (by kernel_rfl) ?_ _
      have hR' := hR.below e0
      have hcur' := hcur
      have hR1 := hR'.set0 (.slice none 0 0)
      have hR2 := hR1.set1 (.slice none 0 0)
      have c0 := hR'.c0
      have c1 := hR1.c1
      have hret := hR2.rload rfl rfl
      have bz : Below w.heap.size w _ := below_setCell (k := 1) (below_setCell (k := 0) hcur (Nat.le_succ w.heap.size) (.slice none 0 0)) (Nat.le_succ w.heap.size) (.slice none 0 0)
      go_wp2_with fail
      exact ret_cell2 (v := .agg #[.slice none 0 0, .slice none 0 0]) Try.results24 rfl hret rfl ⟨_, rfl, ⟨_, _, rfl, slB_nil _, slB_nil _⟩, bz⟩
set_option maxHeartbeats 16000000 in
theorem rconsistent_go (k : Nat) (hk : k ≤ 256) (vl : Value) (l : List (List UInt8)) (n : Nat) (old : List UInt8) (ol : old.length = 32) (vp : Value) (ps : List (List UInt8)) (w : World)
    (hl : SlX w vl l) (hp : SlD w vp ps) (hn1 : 1 ≤ n) (hn2 : n ≤ l.length) (hne : old ≠ rootX k (l.take n)) (hll : l.length ≤ 1048576) (hz : ∀ z ∈ l, z.length ≤ 1048576) :
    Calls Try.prog 24 #[.int .i64 k, vl, .int .i64 n, dg old, vp] w fun e w' => ∃ v, e = .returned (.tuple #[v, .bool (consistentL k old zer lastL l n ps).isSome]) ∧ PairAt w' v (consistentL k old zer lastL l n ps) ∧ Below w.heap.size w w' := by
  have hinc := consistentL_in (k := k) (d := zer) (pick := lastL) (ps := ps) hn1 hn2 hne
  obtain ⟨A, c, rfl, hc, hcm⟩ := hl.len
  obtain ⟨h3, h4, b2, z2⟩ := alloc2 (w := w) (o1 := .cells (bs old).toArray 38 (0, 0)) (o2 := .cells #[.slice none 0 0, .slice none 0 0] 33 (0, 0)) rfl
  have hO : RowT 38 _ w.heap.size old := h3
  have hR : PR 33 _ (w.heap.size + 1) (.slice none 0 0) (.slice none 0 0) := h4
  clear h3 h4 z2
  have hL0 := hl.slice 0 n (by omega) (by omega)
  simp only [List.drop_zero, Nat.sub_zero, slA_zero] at hL0
  have ka := fun w' (h : Ext w w') => rroot_any k hk (.slice A n c) (l.take n) w' (by rw [List.length_take]; omega) (fun z h => hz z (List.mem_of_mem_take h)) (hL0.below h)
  have rl := rootX_length k (l.take n)
  have qe0 := fun w' => arr_dg.eql old (rootX k (l.take n)) ol rl w'
  rw [beq_eq_false_iff_ne.2 hne] at qe0
  generalize rootX k (l.take n) = rt0 at ka qe0 rl
  clear rl hL0 hne
  have hup := fun w' (h : Ext w w') => rgrow_any k hk old ol l.length _ l n true vp ps w' (Nat.le_refl _) hll hn1 hn2 hz (hl.below h) (hp.below h)
  have hro := fun w' (h : Below w.heap.size w w') => rroot_any k hk (.slice A l.length c) l w' hll hz (hl.below h)
  have hrl := rootX_length k l
  generalize rootX k l = rt at *
  generalize growN k old zer lastL l.length l n true ps = way at *
  replace hinc : Hid _ := hinc
  have d1 : decide ((n : Int) < 1) = false := decide_eq_false (by omega)
  have d1' : decide (n < 1) = false := decide_eq_false (by omega)
  have d2 : decide (l.length < n) = false := decide_eq_false (by omega)
  have i0 : (0 : Int) ≤ n := by omega
  have i1 : (n : Int) ≤ c := by omega
  have i2 : (n : Int) ≤ l.length := by omega
  clear hl hp hz
  change Calls _ _ #[_, _, _, .agg (bs old).toArray, _] _ _
  go_enter Try.func24, Try.ntmps24
  go_wp2_with fail
  generalize World.alloc (World.alloc w _) _ = W at *
  have hcur : Below w.heap.size w W := b2
  have e0 := Ext.refl W
  refine wp_region_E (by kernel_rfl) ?_
  replace hcur := below_via hcur (ext_drew _)
  replace e0 := Ext.trans e0 (ext_drew _)
  refine wpAnyE_take (i := 0) (v := ?_) (some 13) rfl rfl (by kernel_rfl) (by kernel_rfl) (by kernel_rfl) (fun _ _ _ h => h) ?_ ?_
  rotate_left 1
  · (refine Or.inl ⟨by rfl, ?_⟩; intro w' hw'; have hq := below_via hcur hw'; have hq_e0 := Ext.trans e0 hw'; (try go_simp); (try rfl); done)
  try simp only [Act.put, List.setIfInBounds_toArray, List.set_cons_zero, List.set_cons_succ]
  refine wpAnyE_take (i := 1) (v := ?_) (some 14) rfl rfl (by kernel_rfl) (by kernel_rfl) (by kernel_rfl) (fun _ _ _ h => h) ?_ ?_
  rotate_left 1
  · (refine Or.inl ⟨by rfl, ?_⟩; intro w' hw'; have hq := below_via hcur hw'; have hq_e0 := Ext.trans e0 hw'; (try go_simp); (try rfl); done)
  try simp only [Act.put, List.setIfInBounds_toArray, List.set_cons_zero, List.set_cons_succ]
  refine wpAnyE_take (i := 2) (v := ?_) (some 15) rfl rfl (by kernel_rfl) (by kernel_rfl) (by kernel_rfl) (fun _ _ _ h => h) ?_ ?_
  rotate_left 1
  · (refine Or.inl ⟨by rfl, ?_⟩; intro w' hw'; have hq := below_via hcur hw'; have hq_e0 := Ext.trans e0 hw'; (try go_simp); (try rfl); done)
  try simp only [Act.put, List.setIfInBounds_toArray, List.set_cons_zero, List.set_cons_succ]
  refine wpAnyE_take (i := 3) (v := ?_) (some 16) rfl rfl (by kernel_rfl) (by kernel_rfl) (by kernel_rfl) (fun _ _ _ h => h) ?_ ?_
  rotate_left 1
  · (refine Or.inl ⟨by rfl, ?_⟩; intro w' hw'; have hq := below_via hcur hw'; have hq_e0 := Ext.trans e0 hw'; (try go_simp); (try rfl); done)
  try simp only [Act.put, List.setIfInBounds_toArray, List.set_cons_zero, List.set_cons_succ]
  refine wpAnyE_take (i := 4) (v := ?_) (some 17) rfl rfl (by kernel_rfl) (by kernel_rfl) (by kernel_rfl) (fun _ _ _ h => h) ?_ ?_
  rotate_left 1
  · (refine Or.inl ⟨by rfl, ?_⟩; intro w' hw'; have hq := below_via hcur hw'; have hq_e0 := Ext.trans e0 hw'; (try go_simp); (try rfl); done)
  try simp only [Act.put, List.setIfInBounds_toArray, List.set_cons_zero, List.set_cons_succ]
  refine wpAnyE_take (i := 5) (v := ?_) (some 18) rfl rfl (by kernel_rfl) (by kernel_rfl) (by kernel_rfl) (fun _ _ _ h => h) ?_ ?_
  rotate_left 1
  · (refine Or.inl ⟨by rfl, ?_⟩; intro w' hw'; have hq := below_via hcur hw'; have hq_e0 := Ext.trans e0 hw'; (try go_simp); (try rfl); done)
  try simp only [Act.put, List.setIfInBounds_toArray, List.set_cons_zero, List.set_cons_succ]
  refine wpAnyE_take (i := 6) (v := ?_) (some 19) rfl rfl (by kernel_rfl) (by kernel_rfl) (by kernel_rfl) (fun _ _ _ h => h) ?_ ?_
  rotate_left 1
  · (refine Or.inl ⟨by rfl, ?_⟩; intro w' hw'; have hq := below_via hcur hw'; have hq_e0 := Ext.trans e0 hw'; (try go_simp); (try rfl); done)
  try simp only [Act.put, List.setIfInBounds_toArray, List.set_cons_zero, List.set_cons_succ]
  refine wpAnyE_take (i := 7) (v := ?_) (some 20) rfl rfl (by kernel_rfl) (by kernel_rfl) (by kernel_rfl) (fun _ _ _ h => h) ?_ ?_
  rotate_left 1
  · (refine Or.inl ⟨by rfl, ?_⟩; intro w' hw'; have hq := below_via hcur hw'; have hq_e0 := Ext.trans e0 hw'; (try go_simp); (try rfl); done)
  try simp only [Act.put, List.setIfInBounds_toArray, List.set_cons_zero, List.set_cons_succ]
  refine wpAnyE_take (i := 8) (v := ?_) (some 21) rfl rfl (by kernel_rfl) (by kernel_rfl) (by kernel_rfl) (fun _ _ _ h => h) ?_ ?_
  rotate_left 1
  · (refine Or.inl ⟨by rfl, ?_⟩; intro w' hw'; have hq := below_via hcur hw'; have hq_e0 := Ext.trans e0 hw'; (try go_simp); (try rfl); done)
  try simp only [Act.put, List.setIfInBounds_toArray, List.set_cons_zero, List.set_cons_succ]
  refine wpAnyE_take (i := 9) (v := ?_) (some 22) rfl rfl (by kernel_rfl) (by kernel_rfl) (by kernel_rfl) (fun _ _ _ h => h) ?_ ?_
  rotate_left 1
  · (refine Or.inl ⟨by rfl, ?_⟩; intro w' hw'; have hq := below_via hcur hw'; have hq_e0 := Ext.trans e0 hw'; (refine arr_dg.ex (hO.below (Ext.trans e0 hw')) ol (.tmp 8) ?_ ?_ <;> rfl))
  try simp only [Act.put, List.setIfInBounds_toArray, List.set_cons_zero, List.set_cons_succ]
  refine wpAnyE_take (i := 10) (v := ?_) (some 23) rfl rfl (by kernel_rfl) (by kernel_rfl) (by kernel_rfl) (fun _ _ _ h => h) ?_ ?_
  rotate_left 1
  · (refine Or.inl ⟨by rfl, ?_⟩; intro w' hw'; have hq := below_via hcur hw'; have hq_e0 := Ext.trans e0 hw'; (try go_simp); (try rfl); done)
  try simp only [Act.put, List.setIfInBounds_toArray, List.set_cons_zero, List.set_cons_succ]
  refine wpAnyE_take (i := 11) (v := ?_) (some 24) rfl rfl (by kernel_rfl) (by kernel_rfl) (by kernel_rfl) (fun _ _ _ h => h) ?_ ?_
  rotate_left 1
  · (refine Or.inl ⟨by rfl, ?_⟩; intro w' hw'; have hq := below_via hcur hw'; have hq_e0 := Ext.trans e0 hw'; (try go_simp); (try rfl); done)
  try simp only [Act.put, List.setIfInBounds_toArray, List.set_cons_zero, List.set_cons_succ]
  refine wpAnyE_take (i := 12) (v := ?_) (some 25) rfl rfl (by kernel_rfl) (by kernel_rfl) (by kernel_rfl) (fun _ _ _ h => h) ?_ ?_
  rotate_left 1
  · (refine Or.inl ⟨by rfl, ?_⟩; intro w' hw'; have hq := below_via hcur hw'; have hq_e0 := Ext.trans e0 hw'; (try go_simp); (try rfl); done)
  try simp only [Act.put, List.setIfInBounds_toArray, List.set_cons_zero, List.set_cons_succ]
  refine wpAnyE_take (i := 13) (v := ?_) (some 26) rfl rfl (by kernel_rfl) (by kernel_rfl) (by kernel_rfl) (fun _ _ _ h => h) ?_ ?_
  rotate_left 1
  · (refine Or.inl ⟨by rfl, ?_⟩; intro w' hw'; have hq := below_via hcur hw'; have hq_e0 := Ext.trans e0 hw'; (try go_simp); (try rfl); done)
  try simp only [Act.put, List.setIfInBounds_toArray, List.set_cons_zero, List.set_cons_succ]
  refine wpAnyE_one (i := 14) rfl (by kernel_rfl) (by rfl) (fun K hK => ?_)
  go_simp
  have hka := ka _ hcur
  (with_reducible refine hka.mono ?_); rintro e W1 ⟨rfl, hb⟩
  clear hka
  refine hK.out _ _ hb ?_
  replace hcur := below_via hcur hb; clear hK K
  replace e0 := Ext.trans e0 hb
  try simp only [Act.put, List.setIfInBounds_toArray, List.set_cons_zero, List.set_cons_succ]
  refine wpAnyE_take (i := 15) (v := ?_) (some 28) rfl rfl (by kernel_rfl) (by kernel_rfl) (by kernel_rfl) (fun _ _ _ h => h) ?_ ?_
  rotate_left 1
  · (refine Or.inl ⟨by rfl, ?_⟩; intro w' hw'; have hq := below_via hcur hw'; have hq_e0 := Ext.trans e0 hw'; (try go_simp); (try rfl); done)
  try simp only [Act.put, List.setIfInBounds_toArray, List.set_cons_zero, List.set_cons_succ]
  refine wpAnyE_take (i := 16) (v := ?_) (some 29) rfl rfl (by kernel_rfl) (by kernel_rfl) (by kernel_rfl) (fun _ _ _ h => h) ?_ ?_
  rotate_left 1
  · (refine Or.inl ⟨by rfl, ?_⟩; intro w' hw'; have hq := below_via hcur hw'; have hq_e0 := Ext.trans e0 hw'; (try go_simp); (try rfl); done)
  try simp only [Act.put, List.setIfInBounds_toArray, List.set_cons_zero, List.set_cons_succ]
  refine wpAnyE_done (by kernel_rfl) ?_ _
  have hR1 := hR.below e0
  have hO1 := hO.below e0
  have hu1 := hup _ hcur
  clear ka qe0 e0 hR hO hup d1 d1' d2 b2
  go_wp2_with ((with_reducible refine at_load ?_); refine arr_dg.loadL hO1 (by rfl) ol _ rfl rfl ?_)
  refine hu1.mono ?_
  rintro e w5 ⟨va, vb', rfl, hv5, b5⟩
  have hcur5 : Below w.heap.size w w5 := Below.trans hcur (b5.mono hcur.size)
  have hR5 := hR1.below b5
  have hO5 := hO1.below b5
  have hD6 := rowY_new w5
  have e6 := ext_alloc w5 (.cells (wyC zer zer nilV nilV false false).toArray 72 (0, 0))
  have hD7 := hD6.setRow way.old way.new va vb' way.p.isSome way.fits
  have hv7 := (hv5.below e6).row hD6 (by decide) (wyC way.old way.new va vb' way.p.isSome way.fits).toArray
  have hR7 := (hR5.below e6).row_other (D := w5.heap.size) (by have := hR5.lt; omega) (wyC way.old way.new va vb' way.p.isSome way.fits).toArray
  have hO7 := (hO5.below e6).other (D := w5.heap.size) (by have := hO5.lt; omega) (wyC way.old way.new va vb' way.p.isSome way.fits).toArray
  have b7 : Below w.heap.size w _ := below_setRow (Below.trans hcur5 (e6.mono hcur5.size)) hcur5.size (wyC way.old way.new va vb' way.p.isSome way.fits).toArray
  have oa := sl_one' hv5.a.sl
  have ob := sl_one' hv5.b.sl
  have lo := hv5.lo
  have ln := hv5.ln
  clear hR5 hR1 b5 e6 hv5 hu1 hO5 hO1
  unfold wayOf
  go_wp2_with ((with_reducible refine at_store ?_); refine wpl_storeY hD6 zer_length zer_length lo ln oa ob rfl _ _ rfl rfl rfl ?_)
  generalize hW8 : World.setRow _ _ _ = W8
  have hW9 : (w5.alloc (.cells (wyC zer zer nilV nilV false false).toArray 72 (0, 0))).setRow w5.heap.size (wyC way.old way.new va vb' way.p.isSome way.fits).toArray = W8 := by rw [← hW8]; rfl
  rw [hW9] at hD7 hv7 hR7 b7 hO7
  have hS : Below w.heap.size w W8.drew ∧ RowT 38 W8.drew w.heap.size old ∧ RowY W8.drew w5.heap.size way.old way.new va vb' way.p.isSome way.fits := ⟨b7.drew, hO7.below (ext_drew _), hD7.ext (ext_drew _)⟩
  have hv8 := hv7.below (ext_drew _)
  have hR8 := hR7.below (ext_drew _)
  have qe := fun w' => arr_dg.neq way.new rt ln hrl w'
  have qo := fun w' => arr_dg.neq way.old old lo ol w'
  clear hW8 hW9 hD6 hD7 hv7 hR7 b7 hO7
  cases hfit : way.fits with
  | false =>
    rw [hfit] at hS hinc
    refine wp_region_S (fun w' => Below w.heap.size w w' ∧ RowT 38 w' w.heap.size old ∧ RowY w' w5.heap.size way.old way.new va vb' way.p.isSome false) (by kernel_rfl) ?_
    refine wpAnyS_take (i := 0) (v := ?_) hS (some 37) rfl rfl (by kernel_rfl) (by kernel_rfl) (by kernel_rfl) (fun _ _ _ h => h) ?_ ?_
    rotate_left 1
    · (refine Or.inl ⟨by rfl, ?_⟩; intro w' hw'; have hq1 := (hw'.2.2.tail lo ln).2.2.2.1; have hq2 := (hw'.2.2.tail lo ln).2.2.1.1; (try go_simp); (try rfl); done)
    try simp only [Act.put, List.setIfInBounds_toArray, List.set_cons_zero, List.set_cons_succ]
    refine wpAnyS_take (i := 1) (v := ?_) hS (some 38) rfl rfl (by kernel_rfl) (by kernel_rfl) (by kernel_rfl) (fun _ _ _ h => h) ?_ ?_
    rotate_left 1
    · (refine Or.inl ⟨by rfl, ?_⟩; intro w' hw'; have hq1 := (hw'.2.2.tail lo ln).2.2.2.1; have hq2 := (hw'.2.2.tail lo ln).2.2.1.1; (try go_simp); (try rfl); done)
    try simp only [Act.put, List.setIfInBounds_toArray, List.set_cons_zero, List.set_cons_succ]
    refine wpAnyS_take (i := 2) (v := ?_) hS (some 39) rfl rfl (by kernel_rfl) (by kernel_rfl) (by kernel_rfl) (fun _ _ _ h => h) ?_ ?_
    rotate_left 1
    · (refine Or.inl ⟨by rfl, ?_⟩; intro w' hw'; have hq1 := (hw'.2.2.tail lo ln).2.2.2.1; have hq2 := (hw'.2.2.tail lo ln).2.2.1.1; (try go_simp); (try rfl); done)
    try simp only [Act.put, List.setIfInBounds_toArray, List.set_cons_zero, List.set_cons_succ]
    refine wpAnyS_take (i := 3) (v := ?_) hS (some 40) rfl rfl (by kernel_rfl) (by kernel_rfl) (by kernel_rfl) (fun _ _ _ h => h) ?_ ?_
    rotate_left 1
    · (refine Or.inl ⟨by rfl, ?_⟩; intro w' hw'; have hq1 := (hw'.2.2.tail lo ln).2.2.2.1; have hq2 := (hw'.2.2.tail lo ln).2.2.1.1; (try go_simp); (try rfl); done)
    try simp only [Act.put, List.setIfInBounds_toArray, List.set_cons_zero, List.set_cons_succ]
    refine wpAnyS_take (i := 4) (v := undef) hS (some 41) rfl rfl (by kernel_rfl) (by kernel_rfl) (by kernel_rfl) (fun _ _ _ h => h) (Or.inr ⟨by rfl, rfl⟩) ?_
    try simp only [Act.put, List.setIfInBounds_toArray, List.set_cons_zero, List.set_cons_succ]
    refine wpAnyS_take (i := 5) (v := undef) hS (some 42) rfl rfl (by kernel_rfl) (by kernel_rfl) (by kernel_rfl) (fun _ _ _ h => h) (Or.inr ⟨by rfl, rfl⟩) ?_
    try simp only [Act.put, List.setIfInBounds_toArray, List.set_cons_zero, List.set_cons_succ]
    refine wpAnyS_take (i := 6) (v := undef) hS (some 43) rfl rfl (by kernel_rfl) (by kernel_rfl) (by kernel_rfl) (fun _ _ _ h => h) (Or.inr ⟨by rfl, rfl⟩) ?_
    try simp only [Act.put, List.setIfInBounds_toArray, List.set_cons_zero, List.set_cons_succ]
    refine wpAnyS_take (i := 7) (v := undef) hS (some 44) rfl rfl (by kernel_rfl) (by kernel_rfl) (by kernel_rfl) (fun _ _ _ h => h) (Or.inr ⟨by rfl, rfl⟩) ?_
    try simp only [Act.put, List.setIfInBounds_toArray, List.set_cons_zero, List.set_cons_succ]
    refine wpAnyS_take (i := 8) (v := ?_) hS (some 45) rfl rfl (by kernel_rfl) (by kernel_rfl) (by kernel_rfl) (fun _ _ _ h => h) ?_ ?_
    rotate_left 1
    · (refine Or.inl ⟨by rfl, ?_⟩; intro w' hw'; have hq1 := (hw'.2.2.tail lo ln).2.2.2.1; have hq2 := (hw'.2.2.tail lo ln).2.2.1.1; (try go_simp); (try rfl); done)
    try simp only [Act.put, List.setIfInBounds_toArray, List.set_cons_zero, List.set_cons_succ]
    refine wpAnyS_take (i := 9) (v := ?_) hS (some 46) rfl rfl (by kernel_rfl) (by kernel_rfl) (by kernel_rfl) (fun _ _ _ h => h) ?_ ?_
    rotate_left 1
    · (refine Or.inl ⟨by rfl, ?_⟩; intro w' hw'; have hq1 := (hw'.2.2.tail lo ln).2.2.2.1; have hq2 := (hw'.2.2.tail lo ln).2.2.1.1; (try go_simp); (try rfl); done)
    try simp only [Act.put, List.setIfInBounds_toArray, List.set_cons_zero, List.set_cons_succ]
    refine wpAnyS_take (i := 10) (v := undef) hS (some 47) rfl rfl (by kernel_rfl) (by kernel_rfl) (by kernel_rfl) (fun _ _ _ h => h) (Or.inr ⟨by rfl, rfl⟩) ?_
    try simp only [Act.put, List.setIfInBounds_toArray, List.set_cons_zero, List.set_cons_succ]
    refine wpAnyS_take (i := 11) (v := undef) hS (some 48) rfl rfl (by kernel_rfl) (by kernel_rfl) (by kernel_rfl) (fun _ _ _ h => h) (Or.inr ⟨by rfl, rfl⟩) ?_
    try simp only [Act.put, List.setIfInBounds_toArray, List.set_cons_zero, List.set_cons_succ]
    refine wpAnyS_take (i := 12) (v := undef) hS (some 49) rfl rfl (by kernel_rfl) (by kernel_rfl) (by kernel_rfl) (fun _ _ _ h => h) (Or.inr ⟨by rfl, rfl⟩) ?_
    try simp only [Act.put, List.setIfInBounds_toArray, List.set_cons_zero, List.set_cons_succ]
    refine wpAnyS_take (i := 13) (v := undef) hS (some 50) rfl rfl (by kernel_rfl) (by kernel_rfl) (by kernel_rfl) (fun _ _ _ h => h) (Or.inr ⟨by rfl, rfl⟩) ?_
    try simp only [Act.put, List.setIfInBounds_toArray, List.set_cons_zero, List.set_cons_succ]
    refine wpAnyS_take (i := 14) (v := undef) hS (some 51) rfl rfl (by kernel_rfl) (by kernel_rfl) (by kernel_rfl) (fun _ _ _ h => h) (Or.inr ⟨by rfl, rfl⟩) ?_
    try simp only [Act.put, List.setIfInBounds_toArray, List.set_cons_zero, List.set_cons_succ]
    refine wpAnyS_take (i := 15) (v := undef) hS (some 52) rfl rfl (by kernel_rfl) (by kernel_rfl) (by kernel_rfl) (fun _ _ _ h => h) (Or.inr ⟨by rfl, rfl⟩) ?_
    try simp only [Act.put, List.setIfInBounds_toArray, List.set_cons_zero, List.set_cons_succ]
    refine wpAnyS_take (i := 16) (v := ?_) hS (some 53) rfl rfl (by kernel_rfl) (by kernel_rfl) (by kernel_rfl) (fun _ _ _ h => h) ?_ ?_
    rotate_left 1
    · (refine Or.inl ⟨by rfl, ?_⟩; intro w' hw'; have hq1 := (hw'.2.2.tail lo ln).2.2.2.1; have hq2 := (hw'.2.2.tail lo ln).2.2.1.1; (try go_simp); (try rfl); done)
    try simp only [Act.put, List.setIfInBounds_toArray, List.set_cons_zero, List.set_cons_succ]
    refine wpAnyS_take (i := 17) (v := ?_) hS (some 54) rfl rfl (by kernel_rfl) (by kernel_rfl) (by kernel_rfl) (fun _ _ _ h => h) ?_ ?_
    rotate_left 1
    · (refine Or.inl ⟨by rfl, ?_⟩; intro w' hw'; have hq1 := (hw'.2.2.tail lo ln).2.2.2.1; have hq2 := (hw'.2.2.tail lo ln).2.2.1.1; (try go_simp); (try rfl); done)
    try simp only [Act.put, List.setIfInBounds_toArray, List.set_cons_zero, List.set_cons_succ]
    refine wpAnyS_take (i := 18) (v := undef) hS (some 55) rfl rfl (by kernel_rfl) (by kernel_rfl) (by kernel_rfl) (fun _ _ _ h => h) (Or.inr ⟨by rfl, rfl⟩) ?_
    try simp only [Act.put, List.setIfInBounds_toArray, List.set_cons_zero, List.set_cons_succ]
    refine wpAnyS_take (i := 19) (v := undef) hS (some 56) rfl rfl (by kernel_rfl) (by kernel_rfl) (by kernel_rfl) (fun _ _ _ h => h) (Or.inr ⟨by rfl, rfl⟩) ?_
    try simp only [Act.put, List.setIfInBounds_toArray, List.set_cons_zero, List.set_cons_succ]
    refine wpAnyS_take (i := 20) (v := undef) hS (some 57) rfl rfl (by kernel_rfl) (by kernel_rfl) (by kernel_rfl) (fun _ _ _ h => h) (Or.inr ⟨by rfl, rfl⟩) ?_
    try simp only [Act.put, List.setIfInBounds_toArray, List.set_cons_zero, List.set_cons_succ]
    refine wpAnyS_take (i := 21) (v := ?_) hS (some 58) rfl rfl (by kernel_rfl) (by kernel_rfl) (by kernel_rfl) (fun _ _ _ h => h) ?_ ?_
    rotate_left 1
    · (refine Or.inl ⟨by rfl, ?_⟩; intro w' hw'; have hq1 := (hw'.2.2.tail lo ln).2.2.2.1; have hq2 := (hw'.2.2.tail lo ln).2.2.1.1; (try go_simp); (try rfl); done)
    try simp only [Act.put, List.setIfInBounds_toArray, List.set_cons_zero, List.set_cons_succ]
    refine wpAnyS_done (by kernel_rfl) ?_ _
    have hans : Hid (consistentL k old zer lastL l n ps = none) := by unfold Hid; rw [hinc.out]; exact if_neg (fun h => Bool.noConfusion h.1)
    clear hinc hfit
    generalize World.drew W8 = W10 at *
    have hRa := hR8.set0 (.slice none 0 0)
    have hRb := hRa.set1 (.slice none 0 0)
    have c0 := hR8.c0
    have c1 := hRa.c1
    have hret := hRb.rload rfl rfl
    have bz : Below w.heap.size w _ := below_setCell (k := 1) (below_setCell (k := 0) hS.1 (Nat.le_succ w.heap.size) (.slice none 0 0)) (Nat.le_succ w.heap.size) (.slice none 0 0)
    go_wp2_with fail
    refine ret_cell2 (v := .agg #[.slice none 0 0, .slice none 0 0]) Try.results24 rfl hret rfl ?_
    rw [hans.out]
    exact ⟨_, rfl, ⟨_, _, rfl, slB_nil _, slB_nil _⟩, bz⟩
  | true =>
    rw [hfit] at hS hinc
    by_cases hoo : way.old = old
    · rw [beq_iff_eq.2 hoo] at qo
      replace hoo : Hid _ := hoo
      by_cases hnr : way.new = rt
      · rw [beq_iff_eq.2 hnr] at qe
        replace hnr : Hid _ := hnr
        cases hsome : way.p.isSome with
        | true =>
          rw [hsome] at hS
          refine wp_region_S (fun w' => Below w.heap.size w w' ∧ RowT 38 w' w.heap.size old ∧ RowY w' w5.heap.size way.old way.new va vb' true true) (by kernel_rfl) ?_
          refine wpAnyS_take (i := 0) (v := ?_) hS (some 37) rfl rfl (by kernel_rfl) (by kernel_rfl) (by kernel_rfl) (fun _ _ _ h => h) ?_ ?_
          rotate_left 1
          · (refine Or.inl ⟨by rfl, ?_⟩; intro w' hw'; have hq1 := (hw'.2.2.tail lo ln).2.2.2.1; have hq2 := (hw'.2.2.tail lo ln).2.2.1.1; (try go_simp); (try rfl); done)
          try simp only [Act.put, List.setIfInBounds_toArray, List.set_cons_zero, List.set_cons_succ]
          refine wpAnyS_take (i := 1) (v := ?_) hS (some 38) rfl rfl (by kernel_rfl) (by kernel_rfl) (by kernel_rfl) (fun _ _ _ h => h) ?_ ?_
          rotate_left 1
          · (refine Or.inl ⟨by rfl, ?_⟩; intro w' hw'; have hq1 := (hw'.2.2.tail lo ln).2.2.2.1; have hq2 := (hw'.2.2.tail lo ln).2.2.1.1; (try go_simp); (try rfl); done)
          try simp only [Act.put, List.setIfInBounds_toArray, List.set_cons_zero, List.set_cons_succ]
          refine wpAnyS_take (i := 2) (v := ?_) hS (some 39) rfl rfl (by kernel_rfl) (by kernel_rfl) (by kernel_rfl) (fun _ _ _ h => h) ?_ ?_
          rotate_left 1
          · (refine Or.inl ⟨by rfl, ?_⟩; intro w' hw'; have hq1 := (hw'.2.2.tail lo ln).2.2.2.1; have hq2 := (hw'.2.2.tail lo ln).2.2.1.1; (try go_simp); (try rfl); done)
          try simp only [Act.put, List.setIfInBounds_toArray, List.set_cons_zero, List.set_cons_succ]
          refine wpAnyS_take (i := 3) (v := ?_) hS (some 40) rfl rfl (by kernel_rfl) (by kernel_rfl) (by kernel_rfl) (fun _ _ _ h => h) ?_ ?_
          rotate_left 1
          · (refine Or.inl ⟨by rfl, ?_⟩; intro w' hw'; have hq1 := (hw'.2.2.tail lo ln).2.2.2.1; have hq2 := (hw'.2.2.tail lo ln).2.2.1.1; (try go_simp); (try rfl); done)
          try simp only [Act.put, List.setIfInBounds_toArray, List.set_cons_zero, List.set_cons_succ]
          refine wpAnyS_take (i := 4) (v := ?_) hS (some 41) rfl rfl (by kernel_rfl) (by kernel_rfl) (by kernel_rfl) (fun _ _ _ h => h) ?_ ?_
          rotate_left 1
          · (refine Or.inl ⟨by rfl, ?_⟩; intro w' hw'; have hq1 := (hw'.2.2.tail lo ln).2.2.2.1; have hq2 := (hw'.2.2.tail lo ln).2.2.1.1; (try go_simp); (try rfl); done)
          try simp only [Act.put, List.setIfInBounds_toArray, List.set_cons_zero, List.set_cons_succ]
          refine wpAnyS_take (i := 5) (v := ?_) hS (some 42) rfl rfl (by kernel_rfl) (by kernel_rfl) (by kernel_rfl) (fun _ _ _ h => h) ?_ ?_
          rotate_left 1
          · (refine Or.inl ⟨by rfl, ?_⟩; intro w' hw'; have hq1 := (hw'.2.2.tail lo ln).2.2.2.1; have hq2 := (hw'.2.2.tail lo ln).2.2.1.1; (refine arr_dg.exAt' (hw'.2.2.old lo ln) lo (.tmp 41) ?_ ?_ <;> rfl))
          try simp only [Act.put, List.setIfInBounds_toArray, List.set_cons_zero, List.set_cons_succ]
          refine wpAnyS_take (i := 6) (v := ?_) hS (some 43) rfl rfl (by kernel_rfl) (by kernel_rfl) (by kernel_rfl) (fun _ _ _ h => h) ?_ ?_
          rotate_left 1
          · (refine Or.inl ⟨by rfl, ?_⟩; intro w' hw'; have hq1 := (hw'.2.2.tail lo ln).2.2.2.1; have hq2 := (hw'.2.2.tail lo ln).2.2.1.1; (refine arr_dg.ex hw'.2.1 ol (.tmp 8) ?_ ?_ <;> rfl))
          try simp only [Act.put, List.setIfInBounds_toArray, List.set_cons_zero, List.set_cons_succ]
          refine wpAnyS_take (i := 7) (v := ?_) hS (some 44) rfl rfl (by kernel_rfl) (by kernel_rfl) (by kernel_rfl) (fun _ _ _ h => h) ?_ ?_
          rotate_left 1
          · (refine Or.inl ⟨by rfl, ?_⟩; intro w' hw'; have hq1 := (hw'.2.2.tail lo ln).2.2.2.1; have hq2 := (hw'.2.2.tail lo ln).2.2.1.1; (try go_simp); (try rfl); done)
          try simp only [Act.put, List.setIfInBounds_toArray, List.set_cons_zero, List.set_cons_succ]
          refine wpAnyS_take (i := 8) (v := ?_) hS (some 45) rfl rfl (by kernel_rfl) (by kernel_rfl) (by kernel_rfl) (fun _ _ _ h => h) ?_ ?_
          rotate_left 1
          · (refine Or.inl ⟨by rfl, ?_⟩; intro w' hw'; have hq1 := (hw'.2.2.tail lo ln).2.2.2.1; have hq2 := (hw'.2.2.tail lo ln).2.2.1.1; (try go_simp); (try rfl); done)
          try simp only [Act.put, List.setIfInBounds_toArray, List.set_cons_zero, List.set_cons_succ]
          refine wpAnyS_take (i := 9) (v := ?_) hS (some 46) rfl rfl (by kernel_rfl) (by kernel_rfl) (by kernel_rfl) (fun _ _ _ h => h) ?_ ?_
          rotate_left 1
          · (refine Or.inl ⟨by rfl, ?_⟩; intro w' hw'; have hq1 := (hw'.2.2.tail lo ln).2.2.2.1; have hq2 := (hw'.2.2.tail lo ln).2.2.1.1; (try go_simp); (try rfl); done)
          try simp only [Act.put, List.setIfInBounds_toArray, List.set_cons_zero, List.set_cons_succ]
          refine wpAnyS_take (i := 10) (v := ?_) hS (some 47) rfl rfl (by kernel_rfl) (by kernel_rfl) (by kernel_rfl) (fun _ _ _ h => h) ?_ ?_
          rotate_left 1
          · (refine Or.inl ⟨by rfl, ?_⟩; intro w' hw'; have hq1 := (hw'.2.2.tail lo ln).2.2.2.1; have hq2 := (hw'.2.2.tail lo ln).2.2.1.1; (try go_simp); (try rfl); done)
          try simp only [Act.put, List.setIfInBounds_toArray, List.set_cons_zero, List.set_cons_succ]
          refine wpAnyS_take (i := 11) (v := ?_) hS (some 48) rfl rfl (by kernel_rfl) (by kernel_rfl) (by kernel_rfl) (fun _ _ _ h => h) ?_ ?_
          rotate_left 1
          · (refine Or.inl ⟨by rfl, ?_⟩; intro w' hw'; have hq1 := (hw'.2.2.tail lo ln).2.2.2.1; have hq2 := (hw'.2.2.tail lo ln).2.2.1.1; (refine arr_dg.exAt' (hw'.2.2.new lo ln) ln (.tmp 47) ?_ ?_ <;> rfl))
          try simp only [Act.put, List.setIfInBounds_toArray, List.set_cons_zero, List.set_cons_succ]
          refine wpAnyS_take (i := 12) (v := ?_) hS (some 49) rfl rfl (by kernel_rfl) (by kernel_rfl) (by kernel_rfl) (fun _ _ _ h => h) ?_ ?_
          rotate_left 1
          · (refine Or.inl ⟨by rfl, ?_⟩; intro w' hw'; have hq1 := (hw'.2.2.tail lo ln).2.2.2.1; have hq2 := (hw'.2.2.tail lo ln).2.2.1.1; (try go_simp); (try rfl); done)
          try simp only [Act.put, List.setIfInBounds_toArray, List.set_cons_zero, List.set_cons_succ]
          refine wpAnyS_take (i := 13) (v := ?_) hS (some 50) rfl rfl (by kernel_rfl) (by kernel_rfl) (by kernel_rfl) (fun _ _ _ h => h) ?_ ?_
          rotate_left 1
          · (refine Or.inl ⟨by rfl, ?_⟩; intro w' hw'; have hq1 := (hw'.2.2.tail lo ln).2.2.2.1; have hq2 := (hw'.2.2.tail lo ln).2.2.1.1; (try go_simp); (try rfl); done)
          try simp only [Act.put, List.setIfInBounds_toArray, List.set_cons_zero, List.set_cons_succ]
          refine wpAnyS_one (i := 14) rfl (by kernel_rfl) (by rfl) (fun K hK => ?_)
          go_simp
          (with_reducible refine (hro _ hS.1).mono ?_); rintro e w7 ⟨rfl, b7⟩
          replace hv8 := hv8.below b7
          replace hR8 := hR8.below b7
          have hb : Below w.heap.size w w7 ∧ RowT 38 w7 w.heap.size old ∧ RowY w7 w5.heap.size way.old way.new va vb' true true := ⟨Below.trans hS.1 (b7.mono hS.1.size), hS.2.1.below b7, hS.2.2.ext b7⟩
          refine hK.out _ _ hb ?_
          replace hS := hb
          clear hK K hb
          try simp only [Act.put, List.setIfInBounds_toArray, List.set_cons_zero, List.set_cons_succ]
          refine wpAnyS_take (i := 15) (v := ?_) hS (some 52) rfl rfl (by kernel_rfl) (by kernel_rfl) (by kernel_rfl) (fun _ _ _ h => h) ?_ ?_
          rotate_left 1
          · (refine Or.inl ⟨by rfl, ?_⟩; intro w' hw'; have hq1 := (hw'.2.2.tail lo ln).2.2.2.1; have hq2 := (hw'.2.2.tail lo ln).2.2.1.1; (try go_simp); (try rfl); done)
          try simp only [Act.put, List.setIfInBounds_toArray, List.set_cons_zero, List.set_cons_succ]
          refine wpAnyS_take (i := 16) (v := ?_) hS (some 53) rfl rfl (by kernel_rfl) (by kernel_rfl) (by kernel_rfl) (fun _ _ _ h => h) ?_ ?_
          rotate_left 1
          · (refine Or.inl ⟨by rfl, ?_⟩; intro w' hw'; have hq1 := (hw'.2.2.tail lo ln).2.2.2.1; have hq2 := (hw'.2.2.tail lo ln).2.2.1.1; (try go_simp); (try rfl); done)
          try simp only [Act.put, List.setIfInBounds_toArray, List.set_cons_zero, List.set_cons_succ]
          refine wpAnyS_take (i := 17) (v := ?_) hS (some 54) rfl rfl (by kernel_rfl) (by kernel_rfl) (by kernel_rfl) (fun _ _ _ h => h) ?_ ?_
          rotate_left 1
          · (refine Or.inl ⟨by rfl, ?_⟩; intro w' hw'; have hq1 := (hw'.2.2.tail lo ln).2.2.2.1; have hq2 := (hw'.2.2.tail lo ln).2.2.1.1; (try go_simp); (try rfl); done)
          try simp only [Act.put, List.setIfInBounds_toArray, List.set_cons_zero, List.set_cons_succ]
          refine wpAnyS_take (i := 18) (v := ?_) hS (some 55) rfl rfl (by kernel_rfl) (by kernel_rfl) (by kernel_rfl) (fun _ _ _ h => h) ?_ ?_
          rotate_left 1
          · (refine Or.inl ⟨by rfl, ?_⟩; intro w' hw'; have hq1 := (hw'.2.2.tail lo ln).2.2.2.1; have hq2 := (hw'.2.2.tail lo ln).2.2.1.1; (try go_simp); (try rfl); done)
          try simp only [Act.put, List.setIfInBounds_toArray, List.set_cons_zero, List.set_cons_succ]
          refine wpAnyS_take (i := 19) (v := ?_) hS (some 56) rfl rfl (by kernel_rfl) (by kernel_rfl) (by kernel_rfl) (fun _ _ _ h => h) ?_ ?_
          rotate_left 1
          · (refine Or.inl ⟨by rfl, ?_⟩; intro w' hw'; have hq1 := (hw'.2.2.tail lo ln).2.2.2.1; have hq2 := (hw'.2.2.tail lo ln).2.2.1.1; (try go_simp); (try rfl); done)
          try simp only [Act.put, List.setIfInBounds_toArray, List.set_cons_zero, List.set_cons_succ]
          refine wpAnyS_take (i := 20) (v := ?_) hS (some 57) rfl rfl (by kernel_rfl) (by kernel_rfl) (by kernel_rfl) (fun _ _ _ h => h) ?_ ?_
          rotate_left 1
          · (refine Or.inl ⟨by rfl, ?_⟩; intro w' hw'; have hq1 := (hw'.2.2.tail lo ln).2.2.2.1; have hq2 := (hw'.2.2.tail lo ln).2.2.1.1; (try go_simp); (try rfl); done)
          try simp only [Act.put, List.setIfInBounds_toArray, List.set_cons_zero, List.set_cons_succ]
          refine wpAnyS_take (i := 21) (v := ?_) hS (some 58) rfl rfl (by kernel_rfl) (by kernel_rfl) (by kernel_rfl) (fun _ _ _ h => h) ?_ ?_
          rotate_left 1
          · (refine Or.inl ⟨by rfl, ?_⟩; intro w' hw'; have hq1 := (hw'.2.2.tail lo ln).2.2.2.1; have hq2 := (hw'.2.2.tail lo ln).2.2.1.1; (try go_simp); (try rfl); done)
          try simp only [Act.put, List.setIfInBounds_toArray, List.set_cons_zero, List.set_cons_succ]
          refine wpAnyS_done (by kernel_rfl) ?_ _
          have hans : Hid (consistentL k old zer lastL l n ps = way.p) := by unfold Hid; rw [hinc.out, if_pos ⟨rfl, hoo.out, hnr.out⟩]
          obtain ⟨A8, c8, e8, _⟩ := id hv8.a.sl
          obtain ⟨A9, c9, e9, _⟩ := id hv8.b.sl
          have sA0 := hv8.a.sl
          have sB0 := hv8.b.sl
          rw [e8] at sA0
          rw [e9] at sB0
          subst e8
          subst e9
          generalize hx1 : (way.p.getD ([], [])).1 = x1 at *
          generalize hx2 : (way.p.getD ([], [])).2 = x2 at *
          replace hx1 : Hid _ := hx1
          replace hx2 : Hid _ := hx2
          have c64 := (hS.2.2.tail lo ln).1.1
          have c65 := (hS.2.2.tail lo ln).2.1.1
          generalize World.drew W8 = W10 at *
          have hRa := hR8.set0 (.slice A8 x1.length c8)
          have hRb := hRa.set1 (.slice A9 x2.length c9)
          have c0 := hR8.c0
          have c1 := hRa.c1
          have hret := hRb.rload rfl rfl
          have sA := (sA0.off c0.1 (fun m h => by cases h) (.slice A8 x1.length c8)).off c1.1 (fun m h => by cases h) (.slice A9 x2.length c9)
          have sB := (sB0.off c0.1 (fun m h => by cases h) (.slice A8 x1.length c8)).off c1.1 (fun m h => by cases h) (.slice A9 x2.length c9)
          have bz : Below w.heap.size w _ := below_setCell (k := 1) (below_setCell (k := 0) hS.1 (Nat.le_succ w.heap.size) (.slice A8 x1.length c8)) (Nat.le_succ w.heap.size) (.slice A9 x2.length c9)
          have hps : Hid (way.p.isSome = true) := hsome
          clear hsome
          clear hnr hoo
          go_wp2_with fail
          refine ret_cell2 (v := .agg #[.slice A8 x1.length c8, .slice A9 x2.length c9]) Try.results24 rfl hret rfl ?_
          rw [hans.out]
          exact ⟨_, by rw [hps.out]; rfl, ⟨_, _, rfl, by rw [hx1.out]; exact sA, by rw [hx2.out]; exact sB⟩, bz⟩
        | false =>
          rw [hsome] at hS
          refine wp_region_S (fun w' => Below w.heap.size w w' ∧ RowT 38 w' w.heap.size old ∧ RowY w' w5.heap.size way.old way.new va vb' false true) (by kernel_rfl) ?_
          refine wpAnyS_take (i := 0) (v := ?_) hS (some 37) rfl rfl (by kernel_rfl) (by kernel_rfl) (by kernel_rfl) (fun _ _ _ h => h) ?_ ?_
          rotate_left 1
          · (refine Or.inl ⟨by rfl, ?_⟩; intro w' hw'; have hq1 := (hw'.2.2.tail lo ln).2.2.2.1; have hq2 := (hw'.2.2.tail lo ln).2.2.1.1; (try go_simp); (try rfl); done)
          try simp only [Act.put, List.setIfInBounds_toArray, List.set_cons_zero, List.set_cons_succ]
          refine wpAnyS_take (i := 1) (v := ?_) hS (some 38) rfl rfl (by kernel_rfl) (by kernel_rfl) (by kernel_rfl) (fun _ _ _ h => h) ?_ ?_
          rotate_left 1
          · (refine Or.inl ⟨by rfl, ?_⟩; intro w' hw'; have hq1 := (hw'.2.2.tail lo ln).2.2.2.1; have hq2 := (hw'.2.2.tail lo ln).2.2.1.1; (try go_simp); (try rfl); done)
          try simp only [Act.put, List.setIfInBounds_toArray, List.set_cons_zero, List.set_cons_succ]
          refine wpAnyS_take (i := 2) (v := ?_) hS (some 39) rfl rfl (by kernel_rfl) (by kernel_rfl) (by kernel_rfl) (fun _ _ _ h => h) ?_ ?_
          rotate_left 1
          · (refine Or.inl ⟨by rfl, ?_⟩; intro w' hw'; have hq1 := (hw'.2.2.tail lo ln).2.2.2.1; have hq2 := (hw'.2.2.tail lo ln).2.2.1.1; (try go_simp); (try rfl); done)
          try simp only [Act.put, List.setIfInBounds_toArray, List.set_cons_zero, List.set_cons_succ]
          refine wpAnyS_take (i := 3) (v := ?_) hS (some 40) rfl rfl (by kernel_rfl) (by kernel_rfl) (by kernel_rfl) (fun _ _ _ h => h) ?_ ?_
          rotate_left 1
          · (refine Or.inl ⟨by rfl, ?_⟩; intro w' hw'; have hq1 := (hw'.2.2.tail lo ln).2.2.2.1; have hq2 := (hw'.2.2.tail lo ln).2.2.1.1; (try go_simp); (try rfl); done)
          try simp only [Act.put, List.setIfInBounds_toArray, List.set_cons_zero, List.set_cons_succ]
          refine wpAnyS_take (i := 4) (v := ?_) hS (some 41) rfl rfl (by kernel_rfl) (by kernel_rfl) (by kernel_rfl) (fun _ _ _ h => h) ?_ ?_
          rotate_left 1
          · (refine Or.inl ⟨by rfl, ?_⟩; intro w' hw'; have hq1 := (hw'.2.2.tail lo ln).2.2.2.1; have hq2 := (hw'.2.2.tail lo ln).2.2.1.1; (try go_simp); (try rfl); done)
          try simp only [Act.put, List.setIfInBounds_toArray, List.set_cons_zero, List.set_cons_succ]
          refine wpAnyS_take (i := 5) (v := ?_) hS (some 42) rfl rfl (by kernel_rfl) (by kernel_rfl) (by kernel_rfl) (fun _ _ _ h => h) ?_ ?_
          rotate_left 1
          · (refine Or.inl ⟨by rfl, ?_⟩; intro w' hw'; have hq1 := (hw'.2.2.tail lo ln).2.2.2.1; have hq2 := (hw'.2.2.tail lo ln).2.2.1.1; (refine arr_dg.exAt' (hw'.2.2.old lo ln) lo (.tmp 41) ?_ ?_ <;> rfl))
          try simp only [Act.put, List.setIfInBounds_toArray, List.set_cons_zero, List.set_cons_succ]
          refine wpAnyS_take (i := 6) (v := ?_) hS (some 43) rfl rfl (by kernel_rfl) (by kernel_rfl) (by kernel_rfl) (fun _ _ _ h => h) ?_ ?_
          rotate_left 1
          · (refine Or.inl ⟨by rfl, ?_⟩; intro w' hw'; have hq1 := (hw'.2.2.tail lo ln).2.2.2.1; have hq2 := (hw'.2.2.tail lo ln).2.2.1.1; (refine arr_dg.ex hw'.2.1 ol (.tmp 8) ?_ ?_ <;> rfl))
          try simp only [Act.put, List.setIfInBounds_toArray, List.set_cons_zero, List.set_cons_succ]
          refine wpAnyS_take (i := 7) (v := ?_) hS (some 44) rfl rfl (by kernel_rfl) (by kernel_rfl) (by kernel_rfl) (fun _ _ _ h => h) ?_ ?_
          rotate_left 1
          · (refine Or.inl ⟨by rfl, ?_⟩; intro w' hw'; have hq1 := (hw'.2.2.tail lo ln).2.2.2.1; have hq2 := (hw'.2.2.tail lo ln).2.2.1.1; (try go_simp); (try rfl); done)
          try simp only [Act.put, List.setIfInBounds_toArray, List.set_cons_zero, List.set_cons_succ]
          refine wpAnyS_take (i := 8) (v := ?_) hS (some 45) rfl rfl (by kernel_rfl) (by kernel_rfl) (by kernel_rfl) (fun _ _ _ h => h) ?_ ?_
          rotate_left 1
          · (refine Or.inl ⟨by rfl, ?_⟩; intro w' hw'; have hq1 := (hw'.2.2.tail lo ln).2.2.2.1; have hq2 := (hw'.2.2.tail lo ln).2.2.1.1; (try go_simp); (try rfl); done)
          try simp only [Act.put, List.setIfInBounds_toArray, List.set_cons_zero, List.set_cons_succ]
          refine wpAnyS_take (i := 9) (v := ?_) hS (some 46) rfl rfl (by kernel_rfl) (by kernel_rfl) (by kernel_rfl) (fun _ _ _ h => h) ?_ ?_
          rotate_left 1
          · (refine Or.inl ⟨by rfl, ?_⟩; intro w' hw'; have hq1 := (hw'.2.2.tail lo ln).2.2.2.1; have hq2 := (hw'.2.2.tail lo ln).2.2.1.1; (try go_simp); (try rfl); done)
          try simp only [Act.put, List.setIfInBounds_toArray, List.set_cons_zero, List.set_cons_succ]
          refine wpAnyS_take (i := 10) (v := ?_) hS (some 47) rfl rfl (by kernel_rfl) (by kernel_rfl) (by kernel_rfl) (fun _ _ _ h => h) ?_ ?_
          rotate_left 1
          · (refine Or.inl ⟨by rfl, ?_⟩; intro w' hw'; have hq1 := (hw'.2.2.tail lo ln).2.2.2.1; have hq2 := (hw'.2.2.tail lo ln).2.2.1.1; (try go_simp); (try rfl); done)
          try simp only [Act.put, List.setIfInBounds_toArray, List.set_cons_zero, List.set_cons_succ]
          refine wpAnyS_take (i := 11) (v := ?_) hS (some 48) rfl rfl (by kernel_rfl) (by kernel_rfl) (by kernel_rfl) (fun _ _ _ h => h) ?_ ?_
          rotate_left 1
          · (refine Or.inl ⟨by rfl, ?_⟩; intro w' hw'; have hq1 := (hw'.2.2.tail lo ln).2.2.2.1; have hq2 := (hw'.2.2.tail lo ln).2.2.1.1; (refine arr_dg.exAt' (hw'.2.2.new lo ln) ln (.tmp 47) ?_ ?_ <;> rfl))
          try simp only [Act.put, List.setIfInBounds_toArray, List.set_cons_zero, List.set_cons_succ]
          refine wpAnyS_take (i := 12) (v := ?_) hS (some 49) rfl rfl (by kernel_rfl) (by kernel_rfl) (by kernel_rfl) (fun _ _ _ h => h) ?_ ?_
          rotate_left 1
          · (refine Or.inl ⟨by rfl, ?_⟩; intro w' hw'; have hq1 := (hw'.2.2.tail lo ln).2.2.2.1; have hq2 := (hw'.2.2.tail lo ln).2.2.1.1; (try go_simp); (try rfl); done)
          try simp only [Act.put, List.setIfInBounds_toArray, List.set_cons_zero, List.set_cons_succ]
          refine wpAnyS_take (i := 13) (v := ?_) hS (some 50) rfl rfl (by kernel_rfl) (by kernel_rfl) (by kernel_rfl) (fun _ _ _ h => h) ?_ ?_
          rotate_left 1
          · (refine Or.inl ⟨by rfl, ?_⟩; intro w' hw'; have hq1 := (hw'.2.2.tail lo ln).2.2.2.1; have hq2 := (hw'.2.2.tail lo ln).2.2.1.1; (try go_simp); (try rfl); done)
          try simp only [Act.put, List.setIfInBounds_toArray, List.set_cons_zero, List.set_cons_succ]
          refine wpAnyS_one (i := 14) rfl (by kernel_rfl) (by rfl) (fun K hK => ?_)
          go_simp
          (with_reducible refine (hro _ hS.1).mono ?_); rintro e w7 ⟨rfl, b7⟩
          replace hv8 := hv8.below b7
          replace hR8 := hR8.below b7
          have hb : Below w.heap.size w w7 ∧ RowT 38 w7 w.heap.size old ∧ RowY w7 w5.heap.size way.old way.new va vb' false true := ⟨Below.trans hS.1 (b7.mono hS.1.size), hS.2.1.below b7, hS.2.2.ext b7⟩
          refine hK.out _ _ hb ?_
          replace hS := hb
          clear hK K hb
          try simp only [Act.put, List.setIfInBounds_toArray, List.set_cons_zero, List.set_cons_succ]
          refine wpAnyS_take (i := 15) (v := ?_) hS (some 52) rfl rfl (by kernel_rfl) (by kernel_rfl) (by kernel_rfl) (fun _ _ _ h => h) ?_ ?_
          rotate_left 1
          · (refine Or.inl ⟨by rfl, ?_⟩; intro w' hw'; have hq1 := (hw'.2.2.tail lo ln).2.2.2.1; have hq2 := (hw'.2.2.tail lo ln).2.2.1.1; (try go_simp); (try rfl); done)
          try simp only [Act.put, List.setIfInBounds_toArray, List.set_cons_zero, List.set_cons_succ]
          refine wpAnyS_take (i := 16) (v := ?_) hS (some 53) rfl rfl (by kernel_rfl) (by kernel_rfl) (by kernel_rfl) (fun _ _ _ h => h) ?_ ?_
          rotate_left 1
          · (refine Or.inl ⟨by rfl, ?_⟩; intro w' hw'; have hq1 := (hw'.2.2.tail lo ln).2.2.2.1; have hq2 := (hw'.2.2.tail lo ln).2.2.1.1; (try go_simp); (try rfl); done)
          try simp only [Act.put, List.setIfInBounds_toArray, List.set_cons_zero, List.set_cons_succ]
          refine wpAnyS_take (i := 17) (v := ?_) hS (some 54) rfl rfl (by kernel_rfl) (by kernel_rfl) (by kernel_rfl) (fun _ _ _ h => h) ?_ ?_
          rotate_left 1
          · (refine Or.inl ⟨by rfl, ?_⟩; intro w' hw'; have hq1 := (hw'.2.2.tail lo ln).2.2.2.1; have hq2 := (hw'.2.2.tail lo ln).2.2.1.1; (try go_simp); (try rfl); done)
          try simp only [Act.put, List.setIfInBounds_toArray, List.set_cons_zero, List.set_cons_succ]
          refine wpAnyS_take (i := 18) (v := ?_) hS (some 55) rfl rfl (by kernel_rfl) (by kernel_rfl) (by kernel_rfl) (fun _ _ _ h => h) ?_ ?_
          rotate_left 1
          · (refine Or.inl ⟨by rfl, ?_⟩; intro w' hw'; have hq1 := (hw'.2.2.tail lo ln).2.2.2.1; have hq2 := (hw'.2.2.tail lo ln).2.2.1.1; (try go_simp); (try rfl); done)
          try simp only [Act.put, List.setIfInBounds_toArray, List.set_cons_zero, List.set_cons_succ]
          refine wpAnyS_take (i := 19) (v := ?_) hS (some 56) rfl rfl (by kernel_rfl) (by kernel_rfl) (by kernel_rfl) (fun _ _ _ h => h) ?_ ?_
          rotate_left 1
          · (refine Or.inl ⟨by rfl, ?_⟩; intro w' hw'; have hq1 := (hw'.2.2.tail lo ln).2.2.2.1; have hq2 := (hw'.2.2.tail lo ln).2.2.1.1; (try go_simp); (try rfl); done)
          try simp only [Act.put, List.setIfInBounds_toArray, List.set_cons_zero, List.set_cons_succ]
          refine wpAnyS_take (i := 20) (v := ?_) hS (some 57) rfl rfl (by kernel_rfl) (by kernel_rfl) (by kernel_rfl) (fun _ _ _ h => h) ?_ ?_
          rotate_left 1
          · (refine Or.inl ⟨by rfl, ?_⟩; intro w' hw'; have hq1 := (hw'.2.2.tail lo ln).2.2.2.1; have hq2 := (hw'.2.2.tail lo ln).2.2.1.1; (try go_simp); (try rfl); done)
          try simp only [Act.put, List.setIfInBounds_toArray, List.set_cons_zero, List.set_cons_succ]
          refine wpAnyS_take (i := 21) (v := ?_) hS (some 58) rfl rfl (by kernel_rfl) (by kernel_rfl) (by kernel_rfl) (fun _ _ _ h => h) ?_ ?_
          rotate_left 1
          · (refine Or.inl ⟨by rfl, ?_⟩; intro w' hw'; have hq1 := (hw'.2.2.tail lo ln).2.2.2.1; have hq2 := (hw'.2.2.tail lo ln).2.2.1.1; (try go_simp); (try rfl); done)
          try simp only [Act.put, List.setIfInBounds_toArray, List.set_cons_zero, List.set_cons_succ]
          refine wpAnyS_done (by kernel_rfl) ?_ _
          have hans : Hid (consistentL k old zer lastL l n ps = none) := by unfold Hid; rw [hinc.out]; rw [if_pos ⟨rfl, hoo.out, hnr.out⟩]; exact (by cases hq : way.p with | none => rfl | some _ => rw [hq] at hsome; cases hsome)
          clear hinc hfit hnr hsome hoo
          generalize World.drew W8 = W10 at *
          have hRa := hR8.set0 (.slice none 0 0)
          have hRb := hRa.set1 (.slice none 0 0)
          have c0 := hR8.c0
          have c1 := hRa.c1
          have hret := hRb.rload rfl rfl
          have bz : Below w.heap.size w _ := below_setCell (k := 1) (below_setCell (k := 0) hS.1 (Nat.le_succ w.heap.size) (.slice none 0 0)) (Nat.le_succ w.heap.size) (.slice none 0 0)
          go_wp2_with fail
          refine ret_cell2 (v := .agg #[.slice none 0 0, .slice none 0 0]) Try.results24 rfl hret rfl ?_
          rw [hans.out]
          exact ⟨_, rfl, ⟨_, _, rfl, slB_nil _, slB_nil _⟩, bz⟩
      · rw [beq_eq_false_iff_ne.2 hnr] at qe
        replace hnr : Hid _ := hnr
        refine wp_region_S (fun w' => Below w.heap.size w w' ∧ RowT 38 w' w.heap.size old ∧ RowY w' w5.heap.size way.old way.new va vb' way.p.isSome true) (by kernel_rfl) ?_
        refine wpAnyS_take (i := 0) (v := ?_) hS (some 37) rfl rfl (by kernel_rfl) (by kernel_rfl) (by kernel_rfl) (fun _ _ _ h => h) ?_ ?_
        rotate_left 1
        · (refine Or.inl ⟨by rfl, ?_⟩; intro w' hw'; have hq1 := (hw'.2.2.tail lo ln).2.2.2.1; have hq2 := (hw'.2.2.tail lo ln).2.2.1.1; (try go_simp); (try rfl); done)
        try simp only [Act.put, List.setIfInBounds_toArray, List.set_cons_zero, List.set_cons_succ]
        refine wpAnyS_take (i := 1) (v := ?_) hS (some 38) rfl rfl (by kernel_rfl) (by kernel_rfl) (by kernel_rfl) (fun _ _ _ h => h) ?_ ?_
        rotate_left 1
        · (refine Or.inl ⟨by rfl, ?_⟩; intro w' hw'; have hq1 := (hw'.2.2.tail lo ln).2.2.2.1; have hq2 := (hw'.2.2.tail lo ln).2.2.1.1; (try go_simp); (try rfl); done)
        try simp only [Act.put, List.setIfInBounds_toArray, List.set_cons_zero, List.set_cons_succ]
        refine wpAnyS_take (i := 2) (v := ?_) hS (some 39) rfl rfl (by kernel_rfl) (by kernel_rfl) (by kernel_rfl) (fun _ _ _ h => h) ?_ ?_
        rotate_left 1
        · (refine Or.inl ⟨by rfl, ?_⟩; intro w' hw'; have hq1 := (hw'.2.2.tail lo ln).2.2.2.1; have hq2 := (hw'.2.2.tail lo ln).2.2.1.1; (try go_simp); (try rfl); done)
        try simp only [Act.put, List.setIfInBounds_toArray, List.set_cons_zero, List.set_cons_succ]
        refine wpAnyS_take (i := 3) (v := ?_) hS (some 40) rfl rfl (by kernel_rfl) (by kernel_rfl) (by kernel_rfl) (fun _ _ _ h => h) ?_ ?_
        rotate_left 1
        · (refine Or.inl ⟨by rfl, ?_⟩; intro w' hw'; have hq1 := (hw'.2.2.tail lo ln).2.2.2.1; have hq2 := (hw'.2.2.tail lo ln).2.2.1.1; (try go_simp); (try rfl); done)
        try simp only [Act.put, List.setIfInBounds_toArray, List.set_cons_zero, List.set_cons_succ]
        refine wpAnyS_take (i := 4) (v := ?_) hS (some 41) rfl rfl (by kernel_rfl) (by kernel_rfl) (by kernel_rfl) (fun _ _ _ h => h) ?_ ?_
        rotate_left 1
        · (refine Or.inl ⟨by rfl, ?_⟩; intro w' hw'; have hq1 := (hw'.2.2.tail lo ln).2.2.2.1; have hq2 := (hw'.2.2.tail lo ln).2.2.1.1; (try go_simp); (try rfl); done)
        try simp only [Act.put, List.setIfInBounds_toArray, List.set_cons_zero, List.set_cons_succ]
        refine wpAnyS_take (i := 5) (v := ?_) hS (some 42) rfl rfl (by kernel_rfl) (by kernel_rfl) (by kernel_rfl) (fun _ _ _ h => h) ?_ ?_
        rotate_left 1
        · (refine Or.inl ⟨by rfl, ?_⟩; intro w' hw'; have hq1 := (hw'.2.2.tail lo ln).2.2.2.1; have hq2 := (hw'.2.2.tail lo ln).2.2.1.1; (refine arr_dg.exAt' (hw'.2.2.old lo ln) lo (.tmp 41) ?_ ?_ <;> rfl))
        try simp only [Act.put, List.setIfInBounds_toArray, List.set_cons_zero, List.set_cons_succ]
        refine wpAnyS_take (i := 6) (v := ?_) hS (some 43) rfl rfl (by kernel_rfl) (by kernel_rfl) (by kernel_rfl) (fun _ _ _ h => h) ?_ ?_
        rotate_left 1
        · (refine Or.inl ⟨by rfl, ?_⟩; intro w' hw'; have hq1 := (hw'.2.2.tail lo ln).2.2.2.1; have hq2 := (hw'.2.2.tail lo ln).2.2.1.1; (refine arr_dg.ex hw'.2.1 ol (.tmp 8) ?_ ?_ <;> rfl))
        try simp only [Act.put, List.setIfInBounds_toArray, List.set_cons_zero, List.set_cons_succ]
        refine wpAnyS_take (i := 7) (v := ?_) hS (some 44) rfl rfl (by kernel_rfl) (by kernel_rfl) (by kernel_rfl) (fun _ _ _ h => h) ?_ ?_
        rotate_left 1
        · (refine Or.inl ⟨by rfl, ?_⟩; intro w' hw'; have hq1 := (hw'.2.2.tail lo ln).2.2.2.1; have hq2 := (hw'.2.2.tail lo ln).2.2.1.1; (try go_simp); (try rfl); done)
        try simp only [Act.put, List.setIfInBounds_toArray, List.set_cons_zero, List.set_cons_succ]
        refine wpAnyS_take (i := 8) (v := ?_) hS (some 45) rfl rfl (by kernel_rfl) (by kernel_rfl) (by kernel_rfl) (fun _ _ _ h => h) ?_ ?_
        rotate_left 1
        · (refine Or.inl ⟨by rfl, ?_⟩; intro w' hw'; have hq1 := (hw'.2.2.tail lo ln).2.2.2.1; have hq2 := (hw'.2.2.tail lo ln).2.2.1.1; (try go_simp); (try rfl); done)
        try simp only [Act.put, List.setIfInBounds_toArray, List.set_cons_zero, List.set_cons_succ]
        refine wpAnyS_take (i := 9) (v := ?_) hS (some 46) rfl rfl (by kernel_rfl) (by kernel_rfl) (by kernel_rfl) (fun _ _ _ h => h) ?_ ?_
        rotate_left 1
        · (refine Or.inl ⟨by rfl, ?_⟩; intro w' hw'; have hq1 := (hw'.2.2.tail lo ln).2.2.2.1; have hq2 := (hw'.2.2.tail lo ln).2.2.1.1; (try go_simp); (try rfl); done)
        try simp only [Act.put, List.setIfInBounds_toArray, List.set_cons_zero, List.set_cons_succ]
        refine wpAnyS_take (i := 10) (v := ?_) hS (some 47) rfl rfl (by kernel_rfl) (by kernel_rfl) (by kernel_rfl) (fun _ _ _ h => h) ?_ ?_
        rotate_left 1
        · (refine Or.inl ⟨by rfl, ?_⟩; intro w' hw'; have hq1 := (hw'.2.2.tail lo ln).2.2.2.1; have hq2 := (hw'.2.2.tail lo ln).2.2.1.1; (try go_simp); (try rfl); done)
        try simp only [Act.put, List.setIfInBounds_toArray, List.set_cons_zero, List.set_cons_succ]
        refine wpAnyS_take (i := 11) (v := ?_) hS (some 48) rfl rfl (by kernel_rfl) (by kernel_rfl) (by kernel_rfl) (fun _ _ _ h => h) ?_ ?_
        rotate_left 1
        · (refine Or.inl ⟨by rfl, ?_⟩; intro w' hw'; have hq1 := (hw'.2.2.tail lo ln).2.2.2.1; have hq2 := (hw'.2.2.tail lo ln).2.2.1.1; (refine arr_dg.exAt' (hw'.2.2.new lo ln) ln (.tmp 47) ?_ ?_ <;> rfl))
        try simp only [Act.put, List.setIfInBounds_toArray, List.set_cons_zero, List.set_cons_succ]
        refine wpAnyS_take (i := 12) (v := ?_) hS (some 49) rfl rfl (by kernel_rfl) (by kernel_rfl) (by kernel_rfl) (fun _ _ _ h => h) ?_ ?_
        rotate_left 1
        · (refine Or.inl ⟨by rfl, ?_⟩; intro w' hw'; have hq1 := (hw'.2.2.tail lo ln).2.2.2.1; have hq2 := (hw'.2.2.tail lo ln).2.2.1.1; (try go_simp); (try rfl); done)
        try simp only [Act.put, List.setIfInBounds_toArray, List.set_cons_zero, List.set_cons_succ]
        refine wpAnyS_take (i := 13) (v := ?_) hS (some 50) rfl rfl (by kernel_rfl) (by kernel_rfl) (by kernel_rfl) (fun _ _ _ h => h) ?_ ?_
        rotate_left 1
        · (refine Or.inl ⟨by rfl, ?_⟩; intro w' hw'; have hq1 := (hw'.2.2.tail lo ln).2.2.2.1; have hq2 := (hw'.2.2.tail lo ln).2.2.1.1; (try go_simp); (try rfl); done)
        try simp only [Act.put, List.setIfInBounds_toArray, List.set_cons_zero, List.set_cons_succ]
        refine wpAnyS_one (i := 14) rfl (by kernel_rfl) (by rfl) (fun K hK => ?_)
        go_simp
        (with_reducible refine (hro _ hS.1).mono ?_); rintro e w7 ⟨rfl, b7⟩
        replace hv8 := hv8.below b7
        replace hR8 := hR8.below b7
        have hb : Below w.heap.size w w7 ∧ RowT 38 w7 w.heap.size old ∧ RowY w7 w5.heap.size way.old way.new va vb' way.p.isSome true := ⟨Below.trans hS.1 (b7.mono hS.1.size), hS.2.1.below b7, hS.2.2.ext b7⟩
        refine hK.out _ _ hb ?_
        replace hS := hb
        clear hK K hb
        try simp only [Act.put, List.setIfInBounds_toArray, List.set_cons_zero, List.set_cons_succ]
        refine wpAnyS_take (i := 15) (v := ?_) hS (some 52) rfl rfl (by kernel_rfl) (by kernel_rfl) (by kernel_rfl) (fun _ _ _ h => h) ?_ ?_
        rotate_left 1
        · (refine Or.inl ⟨by rfl, ?_⟩; intro w' hw'; have hq1 := (hw'.2.2.tail lo ln).2.2.2.1; have hq2 := (hw'.2.2.tail lo ln).2.2.1.1; (try go_simp); (try rfl); done)
        try simp only [Act.put, List.setIfInBounds_toArray, List.set_cons_zero, List.set_cons_succ]
        refine wpAnyS_take (i := 16) (v := ?_) hS (some 53) rfl rfl (by kernel_rfl) (by kernel_rfl) (by kernel_rfl) (fun _ _ _ h => h) ?_ ?_
        rotate_left 1
        · (refine Or.inl ⟨by rfl, ?_⟩; intro w' hw'; have hq1 := (hw'.2.2.tail lo ln).2.2.2.1; have hq2 := (hw'.2.2.tail lo ln).2.2.1.1; (try go_simp); (try rfl); done)
        try simp only [Act.put, List.setIfInBounds_toArray, List.set_cons_zero, List.set_cons_succ]
        refine wpAnyS_take (i := 17) (v := ?_) hS (some 54) rfl rfl (by kernel_rfl) (by kernel_rfl) (by kernel_rfl) (fun _ _ _ h => h) ?_ ?_
        rotate_left 1
        · (refine Or.inl ⟨by rfl, ?_⟩; intro w' hw'; have hq1 := (hw'.2.2.tail lo ln).2.2.2.1; have hq2 := (hw'.2.2.tail lo ln).2.2.1.1; (try go_simp); (try rfl); done)
        try simp only [Act.put, List.setIfInBounds_toArray, List.set_cons_zero, List.set_cons_succ]
        refine wpAnyS_take (i := 18) (v := undef) hS (some 55) rfl rfl (by kernel_rfl) (by kernel_rfl) (by kernel_rfl) (fun _ _ _ h => h) (Or.inr ⟨by rfl, rfl⟩) ?_
        try simp only [Act.put, List.setIfInBounds_toArray, List.set_cons_zero, List.set_cons_succ]
        refine wpAnyS_take (i := 19) (v := undef) hS (some 56) rfl rfl (by kernel_rfl) (by kernel_rfl) (by kernel_rfl) (fun _ _ _ h => h) (Or.inr ⟨by rfl, rfl⟩) ?_
        try simp only [Act.put, List.setIfInBounds_toArray, List.set_cons_zero, List.set_cons_succ]
        refine wpAnyS_take (i := 20) (v := undef) hS (some 57) rfl rfl (by kernel_rfl) (by kernel_rfl) (by kernel_rfl) (fun _ _ _ h => h) (Or.inr ⟨by rfl, rfl⟩) ?_
        try simp only [Act.put, List.setIfInBounds_toArray, List.set_cons_zero, List.set_cons_succ]
        refine wpAnyS_take (i := 21) (v := ?_) hS (some 58) rfl rfl (by kernel_rfl) (by kernel_rfl) (by kernel_rfl) (fun _ _ _ h => h) ?_ ?_
        rotate_left 1
        · (refine Or.inl ⟨by rfl, ?_⟩; intro w' hw'; have hq1 := (hw'.2.2.tail lo ln).2.2.2.1; have hq2 := (hw'.2.2.tail lo ln).2.2.1.1; (try go_simp); (try rfl); done)
        try simp only [Act.put, List.setIfInBounds_toArray, List.set_cons_zero, List.set_cons_succ]
        refine wpAnyS_done (by kernel_rfl) ?_ _
        have hans : Hid (consistentL k old zer lastL l n ps = none) := by unfold Hid; rw [hinc.out]; exact if_neg (fun h => hnr.out h.2.2)
        clear hinc hfit hnr hoo
        generalize World.drew W8 = W10 at *
        have hRa := hR8.set0 (.slice none 0 0)
        have hRb := hRa.set1 (.slice none 0 0)
        have c0 := hR8.c0
        have c1 := hRa.c1
        have hret := hRb.rload rfl rfl
        have bz : Below w.heap.size w _ := below_setCell (k := 1) (below_setCell (k := 0) hS.1 (Nat.le_succ w.heap.size) (.slice none 0 0)) (Nat.le_succ w.heap.size) (.slice none 0 0)
        go_wp2_with fail
        refine ret_cell2 (v := .agg #[.slice none 0 0, .slice none 0 0]) Try.results24 rfl hret rfl ?_
        rw [hans.out]
        exact ⟨_, rfl, ⟨_, _, rfl, slB_nil _, slB_nil _⟩, bz⟩
    · rw [beq_eq_false_iff_ne.2 hoo] at qo
      replace hoo : Hid _ := hoo
      refine wp_region_S (fun w' => Below w.heap.size w w' ∧ RowT 38 w' w.heap.size old ∧ RowY w' w5.heap.size way.old way.new va vb' way.p.isSome true) (by kernel_rfl) ?_
      refine wpAnyS_take (i := 0) (v := ?_) hS (some 37) rfl rfl (by kernel_rfl) (by kernel_rfl) (by kernel_rfl) (fun _ _ _ h => h) ?_ ?_
      rotate_left 1
      · (refine Or.inl ⟨by rfl, ?_⟩; intro w' hw'; have hq1 := (hw'.2.2.tail lo ln).2.2.2.1; have hq2 := (hw'.2.2.tail lo ln).2.2.1.1; (try go_simp); (try rfl); done)
      try simp only [Act.put, List.setIfInBounds_toArray, List.set_cons_zero, List.set_cons_succ]
      refine wpAnyS_take (i := 1) (v := ?_) hS (some 38) rfl rfl (by kernel_rfl) (by kernel_rfl) (by kernel_rfl) (fun _ _ _ h => h) ?_ ?_
      rotate_left 1
      · (refine Or.inl ⟨by rfl, ?_⟩; intro w' hw'; have hq1 := (hw'.2.2.tail lo ln).2.2.2.1; have hq2 := (hw'.2.2.tail lo ln).2.2.1.1; (try go_simp); (try rfl); done)
      try simp only [Act.put, List.setIfInBounds_toArray, List.set_cons_zero, List.set_cons_succ]
      refine wpAnyS_take (i := 2) (v := ?_) hS (some 39) rfl rfl (by kernel_rfl) (by kernel_rfl) (by kernel_rfl) (fun _ _ _ h => h) ?_ ?_
      rotate_left 1
      · (refine Or.inl ⟨by rfl, ?_⟩; intro w' hw'; have hq1 := (hw'.2.2.tail lo ln).2.2.2.1; have hq2 := (hw'.2.2.tail lo ln).2.2.1.1; (try go_simp); (try rfl); done)
      try simp only [Act.put, List.setIfInBounds_toArray, List.set_cons_zero, List.set_cons_succ]
      refine wpAnyS_take (i := 3) (v := ?_) hS (some 40) rfl rfl (by kernel_rfl) (by kernel_rfl) (by kernel_rfl) (fun _ _ _ h => h) ?_ ?_
      rotate_left 1
      · (refine Or.inl ⟨by rfl, ?_⟩; intro w' hw'; have hq1 := (hw'.2.2.tail lo ln).2.2.2.1; have hq2 := (hw'.2.2.tail lo ln).2.2.1.1; (try go_simp); (try rfl); done)
      try simp only [Act.put, List.setIfInBounds_toArray, List.set_cons_zero, List.set_cons_succ]
      refine wpAnyS_take (i := 4) (v := ?_) hS (some 41) rfl rfl (by kernel_rfl) (by kernel_rfl) (by kernel_rfl) (fun _ _ _ h => h) ?_ ?_
      rotate_left 1
      · (refine Or.inl ⟨by rfl, ?_⟩; intro w' hw'; have hq1 := (hw'.2.2.tail lo ln).2.2.2.1; have hq2 := (hw'.2.2.tail lo ln).2.2.1.1; (try go_simp); (try rfl); done)
      try simp only [Act.put, List.setIfInBounds_toArray, List.set_cons_zero, List.set_cons_succ]
      refine wpAnyS_take (i := 5) (v := ?_) hS (some 42) rfl rfl (by kernel_rfl) (by kernel_rfl) (by kernel_rfl) (fun _ _ _ h => h) ?_ ?_
      rotate_left 1
      · (refine Or.inl ⟨by rfl, ?_⟩; intro w' hw'; have hq1 := (hw'.2.2.tail lo ln).2.2.2.1; have hq2 := (hw'.2.2.tail lo ln).2.2.1.1; (refine arr_dg.exAt' (hw'.2.2.old lo ln) lo (.tmp 41) ?_ ?_ <;> rfl))
      try simp only [Act.put, List.setIfInBounds_toArray, List.set_cons_zero, List.set_cons_succ]
      refine wpAnyS_take (i := 6) (v := ?_) hS (some 43) rfl rfl (by kernel_rfl) (by kernel_rfl) (by kernel_rfl) (fun _ _ _ h => h) ?_ ?_
      rotate_left 1
      · (refine Or.inl ⟨by rfl, ?_⟩; intro w' hw'; have hq1 := (hw'.2.2.tail lo ln).2.2.2.1; have hq2 := (hw'.2.2.tail lo ln).2.2.1.1; (refine arr_dg.ex hw'.2.1 ol (.tmp 8) ?_ ?_ <;> rfl))
      try simp only [Act.put, List.setIfInBounds_toArray, List.set_cons_zero, List.set_cons_succ]
      refine wpAnyS_take (i := 7) (v := ?_) hS (some 44) rfl rfl (by kernel_rfl) (by kernel_rfl) (by kernel_rfl) (fun _ _ _ h => h) ?_ ?_
      rotate_left 1
      · (refine Or.inl ⟨by rfl, ?_⟩; intro w' hw'; have hq1 := (hw'.2.2.tail lo ln).2.2.2.1; have hq2 := (hw'.2.2.tail lo ln).2.2.1.1; (try go_simp); (try rfl); done)
      try simp only [Act.put, List.setIfInBounds_toArray, List.set_cons_zero, List.set_cons_succ]
      refine wpAnyS_take (i := 8) (v := ?_) hS (some 45) rfl rfl (by kernel_rfl) (by kernel_rfl) (by kernel_rfl) (fun _ _ _ h => h) ?_ ?_
      rotate_left 1
      · (refine Or.inl ⟨by rfl, ?_⟩; intro w' hw'; have hq1 := (hw'.2.2.tail lo ln).2.2.2.1; have hq2 := (hw'.2.2.tail lo ln).2.2.1.1; (try go_simp); (try rfl); done)
      try simp only [Act.put, List.setIfInBounds_toArray, List.set_cons_zero, List.set_cons_succ]
      refine wpAnyS_take (i := 9) (v := ?_) hS (some 46) rfl rfl (by kernel_rfl) (by kernel_rfl) (by kernel_rfl) (fun _ _ _ h => h) ?_ ?_
      rotate_left 1
      · (refine Or.inl ⟨by rfl, ?_⟩; intro w' hw'; have hq1 := (hw'.2.2.tail lo ln).2.2.2.1; have hq2 := (hw'.2.2.tail lo ln).2.2.1.1; (try go_simp); (try rfl); done)
      try simp only [Act.put, List.setIfInBounds_toArray, List.set_cons_zero, List.set_cons_succ]
      refine wpAnyS_take (i := 10) (v := undef) hS (some 47) rfl rfl (by kernel_rfl) (by kernel_rfl) (by kernel_rfl) (fun _ _ _ h => h) (Or.inr ⟨by rfl, rfl⟩) ?_
      try simp only [Act.put, List.setIfInBounds_toArray, List.set_cons_zero, List.set_cons_succ]
      refine wpAnyS_take (i := 11) (v := undef) hS (some 48) rfl rfl (by kernel_rfl) (by kernel_rfl) (by kernel_rfl) (fun _ _ _ h => h) (Or.inr ⟨by rfl, rfl⟩) ?_
      try simp only [Act.put, List.setIfInBounds_toArray, List.set_cons_zero, List.set_cons_succ]
      refine wpAnyS_take (i := 12) (v := undef) hS (some 49) rfl rfl (by kernel_rfl) (by kernel_rfl) (by kernel_rfl) (fun _ _ _ h => h) (Or.inr ⟨by rfl, rfl⟩) ?_
      try simp only [Act.put, List.setIfInBounds_toArray, List.set_cons_zero, List.set_cons_succ]
      refine wpAnyS_take (i := 13) (v := undef) hS (some 50) rfl rfl (by kernel_rfl) (by kernel_rfl) (by kernel_rfl) (fun _ _ _ h => h) (Or.inr ⟨by rfl, rfl⟩) ?_
      try simp only [Act.put, List.setIfInBounds_toArray, List.set_cons_zero, List.set_cons_succ]
      refine wpAnyS_take (i := 14) (v := undef) hS (some 51) rfl rfl (by kernel_rfl) (by kernel_rfl) (by kernel_rfl) (fun _ _ _ h => h) (Or.inr ⟨by rfl, rfl⟩) ?_
      try simp only [Act.put, List.setIfInBounds_toArray, List.set_cons_zero, List.set_cons_succ]
      refine wpAnyS_take (i := 15) (v := undef) hS (some 52) rfl rfl (by kernel_rfl) (by kernel_rfl) (by kernel_rfl) (fun _ _ _ h => h) (Or.inr ⟨by rfl, rfl⟩) ?_
      try simp only [Act.put, List.setIfInBounds_toArray, List.set_cons_zero, List.set_cons_succ]
      refine wpAnyS_take (i := 16) (v := ?_) hS (some 53) rfl rfl (by kernel_rfl) (by kernel_rfl) (by kernel_rfl) (fun _ _ _ h => h) ?_ ?_
      rotate_left 1
      · (refine Or.inl ⟨by rfl, ?_⟩; intro w' hw'; have hq1 := (hw'.2.2.tail lo ln).2.2.2.1; have hq2 := (hw'.2.2.tail lo ln).2.2.1.1; (try go_simp); (try rfl); done)
      try simp only [Act.put, List.setIfInBounds_toArray, List.set_cons_zero, List.set_cons_succ]
      refine wpAnyS_take (i := 17) (v := ?_) hS (some 54) rfl rfl (by kernel_rfl) (by kernel_rfl) (by kernel_rfl) (fun _ _ _ h => h) ?_ ?_
      rotate_left 1
      · (refine Or.inl ⟨by rfl, ?_⟩; intro w' hw'; have hq1 := (hw'.2.2.tail lo ln).2.2.2.1; have hq2 := (hw'.2.2.tail lo ln).2.2.1.1; (try go_simp); (try rfl); done)
      try simp only [Act.put, List.setIfInBounds_toArray, List.set_cons_zero, List.set_cons_succ]
      refine wpAnyS_take (i := 18) (v := undef) hS (some 55) rfl rfl (by kernel_rfl) (by kernel_rfl) (by kernel_rfl) (fun _ _ _ h => h) (Or.inr ⟨by rfl, rfl⟩) ?_
      try simp only [Act.put, List.setIfInBounds_toArray, List.set_cons_zero, List.set_cons_succ]
      refine wpAnyS_take (i := 19) (v := undef) hS (some 56) rfl rfl (by kernel_rfl) (by kernel_rfl) (by kernel_rfl) (fun _ _ _ h => h) (Or.inr ⟨by rfl, rfl⟩) ?_
      try simp only [Act.put, List.setIfInBounds_toArray, List.set_cons_zero, List.set_cons_succ]
      refine wpAnyS_take (i := 20) (v := undef) hS (some 57) rfl rfl (by kernel_rfl) (by kernel_rfl) (by kernel_rfl) (fun _ _ _ h => h) (Or.inr ⟨by rfl, rfl⟩) ?_
      try simp only [Act.put, List.setIfInBounds_toArray, List.set_cons_zero, List.set_cons_succ]
      refine wpAnyS_take (i := 21) (v := ?_) hS (some 58) rfl rfl (by kernel_rfl) (by kernel_rfl) (by kernel_rfl) (fun _ _ _ h => h) ?_ ?_
      rotate_left 1
      · (refine Or.inl ⟨by rfl, ?_⟩; intro w' hw'; have hq1 := (hw'.2.2.tail lo ln).2.2.2.1; have hq2 := (hw'.2.2.tail lo ln).2.2.1.1; (try go_simp); (try rfl); done)
      try simp only [Act.put, List.setIfInBounds_toArray, List.set_cons_zero, List.set_cons_succ]
      refine wpAnyS_done (by kernel_rfl) ?_ _
      have hans : Hid (consistentL k old zer lastL l n ps = none) := by unfold Hid; rw [hinc.out]; exact if_neg (fun h => hoo.out h.2.1)
      clear hinc hfit hoo
      generalize World.drew W8 = W10 at *
      have hRa := hR8.set0 (.slice none 0 0)
      have hRb := hRa.set1 (.slice none 0 0)
      have c0 := hR8.c0
      have c1 := hRa.c1
      have hret := hRb.rload rfl rfl
      have bz : Below w.heap.size w _ := below_setCell (k := 1) (below_setCell (k := 0) hS.1 (Nat.le_succ w.heap.size) (.slice none 0 0)) (Nat.le_succ w.heap.size) (.slice none 0 0)
      go_wp2_with fail
      refine ret_cell2 (v := .agg #[.slice none 0 0, .slice none 0 0]) Try.results24 rfl hret rfl ?_
      rw [hans.out]
      exact ⟨_, rfl, ⟨_, _, rfl, slB_nil _, slB_nil _⟩, bz⟩
/-- What Consistent of the reference does. -/
theorem rconsistent_any (k : Nat) (hk : k ≤ 256) (vl : Value) (l : List (List UInt8)) (m : Int) (old : List UInt8) (ol : old.length = 32) (vp : Value) (ps : List (List UInt8)) (w : World) (hm1 : -9223372036854775808 ≤ m) (hm2 : m ≤ 9223372036854775807)
    (hl : SlX w vl l) (hp : SlD w vp ps) (hll : l.length ≤ 1048576) (hz : ∀ z ∈ l, z.length ≤ 1048576) :
    Calls Try.prog 24 #[.int .i64 k, vl, .int .i64 m, dg old, vp] w fun e w' => ∃ v, e = .returned (.tuple #[v, .bool (consistentL k old zer lastL l m ps).isSome]) ∧ PairAt w' v (consistentL k old zer lastL l m ps) ∧ Below w.heap.size w w' := by
  by_cases hn : m < 1 ∨ (l.length : Int) < m ∨ old = rootX k (l.take m.toNat)
  · have e : consistentL k old zer lastL l m ps = none := by unfold consistentL; rw [if_pos hn]
    rw [e]
    exact rconsistent_no k hk vl l m old ol vp w hm1 hm2 hl hll hz hn
  · obtain ⟨n, rfl⟩ : ∃ n : Nat, m = n := ⟨m.toNat, by omega⟩
    have h4 : old ≠ rootX k (l.take n) := fun h => hn (Or.inr (Or.inr (by rw [Int.toNat_natCast]; exact h)))
    exact rconsistent_go k hk vl l n old ol vp ps w hl hp (by omega) (by omega) h4 hll hz
end Go.Proofs.Ytnpbapefjbfndaa
