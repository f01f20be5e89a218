/- Included (walk). -/
import Derived.Test.YtnpbapefjbfndaaZExtW
import Derived.Outline
import Derived.Laws.EntriesVeiled
set_option linter.unusedVariables false
set_option linter.unusedSimpArgs false
set_option maxRecDepth 10000
namespace Go.Proofs.Ytnpbapefjbfndaa
open Go.RowKit
attribute [local go_sem high] dg_cells guard_dg rs_l rs_lh rs_lhm rs_h rs_hm rs_all

theorem alloc_c1 {w : World} {u : Value} {t : TypeId} : C1 t (w.alloc (.cells #[u] t (0, 0))) w.heap.size u := heap_alloc_new _ _
set_option maxHeartbeats 4000000 in
theorem included_no (g k : Nat) (vl : Value) (l : List (List UInt8)) (i : Int) (vb : Value) (b : List UInt8) (vp : Value) (w : World) (hi1 : -9223372036854775808 ≤ i) (hi2 : i ≤ 9223372036854775807)
    (hl : SlX w vl l) (hb : SlB w vb b) (hn : i < 0 ∨ (l.length : Int) ≤ i ∨ b = l.getD i.toNat []) :
    Calls Try.prog 21 #[hv g, vl, .int .i64 i, vb, vp] w fun e w' => ∃ v, e = .returned (.tuple #[v, .bool false]) ∧ PairAt w' v none ∧ Below w.heap.size w w' := by
  have q1 := hv_eql g
  obtain ⟨A, c, rfl, hc, hcm⟩ := hl.len
  obtain ⟨Ab, cb, rfl, hcb, hcbm, _⟩ := id hb
  obtain ⟨h1, h2, b2, z2⟩ := alloc2 (w := w) (o1 := .cells #[.slice Ab b.length cb] 23 (0, 0)) (o2 := .cells #[.slice none 0 0, .slice none 0 0] 30 (0, 0)) rfl
  have hL : C1 23 _ w.heap.size (.slice Ab b.length cb) := h1
  have hR : PR 30 _ (w.heap.size + 1) (.slice none 0 0) (.slice none 0 0) := h2
  clear h1 h2
  unfold hv
  by_cases h3 : i < 0
  · have d1 : decide (i < 0) = true := decide_eq_true h3
    go_enter Try.func21, Try.ntmps21
    go_wp2_with fail
    generalize World.alloc (World.alloc w _) _ = W at *
    have hcur : Below w.heap.size w W := b2
    have e0 := Ext.refl W
    refine wp_region_E (by kernel_rfl) ?_
    replace hcur := below_via hcur (ext_drew _)
    replace e0 := Ext.trans e0 (ext_drew _)
    refine wpAnyE_take (i := 0) (v := ?_) (some 16) rfl rfl (by kernel_rfl) (by kernel_rfl) (by kernel_rfl) (fun _ _ _ h => h) ?_ ?_
    rotate_left 1
    · (refine Or.inl ⟨by rfl, ?_⟩; intro w' hw'; have hq := below_via hcur hw'; have hq_e0 := Ext.trans e0 hw'; (try go_simp); (try rfl); done)
    try simp only [Act.put, List.setIfInBounds_toArray, List.set_cons_zero, List.set_cons_succ]
    refine wpAnyE_take (i := 1) (v := ?_) (some 17) rfl rfl (by kernel_rfl) (by kernel_rfl) (by kernel_rfl) (fun _ _ _ h => h) ?_ ?_
    rotate_left 1
    · (refine Or.inl ⟨by rfl, ?_⟩; intro w' hw'; have hq := below_via hcur hw'; have hq_e0 := Ext.trans e0 hw'; (try go_simp); (try rfl); done)
    try simp only [Act.put, List.setIfInBounds_toArray, List.set_cons_zero, List.set_cons_succ]
    refine wpAnyE_take (i := 2) (v := ?_) (some 18) rfl rfl (by kernel_rfl) (by kernel_rfl) (by kernel_rfl) (fun _ _ _ h => h) ?_ ?_
    rotate_left 1
    · (refine Or.inl ⟨by rfl, ?_⟩; intro w' hw'; have hq := below_via hcur hw'; have hq_e0 := Ext.trans e0 hw'; (try go_simp); (try rfl); done)
    try simp only [Act.put, List.setIfInBounds_toArray, List.set_cons_zero, List.set_cons_succ]
    refine wpAnyE_take (i := 3) (v := ?_) (some 19) rfl rfl (by kernel_rfl) (by kernel_rfl) (by kernel_rfl) (fun _ _ _ h => h) ?_ ?_
    rotate_left 1
    · (refine Or.inl ⟨by rfl, ?_⟩; intro w' hw'; have hq := below_via hcur hw'; have hq_e0 := Ext.trans e0 hw'; (try go_simp); (try rfl); done)
    try simp only [Act.put, List.setIfInBounds_toArray, List.set_cons_zero, List.set_cons_succ]
    refine wpAnyE_take (i := 4) (v := ?_) (some 20) rfl rfl (by kernel_rfl) (by kernel_rfl) (by kernel_rfl) (fun _ _ _ h => h) ?_ ?_
    rotate_left 1
    · (refine Or.inl ⟨by rfl, ?_⟩; intro w' hw'; have hq := below_via hcur hw'; have hq_e0 := Ext.trans e0 hw'; (try go_simp); (try rfl); done)
    try simp only [Act.put, List.setIfInBounds_toArray, List.set_cons_zero, List.set_cons_succ]
    refine wpAnyE_take (i := 5) (v := ?_) (some 21) rfl rfl (by kernel_rfl) (by kernel_rfl) (by kernel_rfl) (fun _ _ _ h => h) ?_ ?_
    rotate_left 1
    · (refine Or.inl ⟨by rfl, ?_⟩; intro w' hw'; have hq := below_via hcur hw'; have hq_e0 := Ext.trans e0 hw'; (try go_simp); (try rfl); done)
    try simp only [Act.put, List.setIfInBounds_toArray, List.set_cons_zero, List.set_cons_succ]
    refine wpAnyE_take (i := 6) (v := ?_) (some 22) rfl rfl (by kernel_rfl) (by kernel_rfl) (by kernel_rfl) (fun _ _ _ h => h) ?_ ?_
    rotate_left 1
    · (refine Or.inl ⟨by rfl, ?_⟩; intro w' hw'; have hq := below_via hcur hw'; have hq_e0 := Ext.trans e0 hw'; (try go_simp); (try rfl); done)
    try simp only [Act.put, List.setIfInBounds_toArray, List.set_cons_zero, List.set_cons_succ]
    refine wpAnyE_take (i := 7) (v := undef) (some 23) rfl rfl (by kernel_rfl) (by kernel_rfl) (by kernel_rfl) (fun _ _ _ h => h) (Or.inr ⟨by rfl, rfl⟩) ?_
    try simp only [Act.put, List.setIfInBounds_toArray, List.set_cons_zero, List.set_cons_succ]
    refine wpAnyE_take (i := 8) (v := undef) (some 24) rfl rfl (by kernel_rfl) (by kernel_rfl) (by kernel_rfl) (fun _ _ _ h => h) (Or.inr ⟨by rfl, rfl⟩) ?_
    try simp only [Act.put, List.setIfInBounds_toArray, List.set_cons_zero, List.set_cons_succ]
    refine wpAnyE_take (i := 9) (v := undef) (some 25) rfl rfl (by kernel_rfl) (by kernel_rfl) (by kernel_rfl) (fun _ _ _ h => h) (Or.inr ⟨by rfl, rfl⟩) ?_
    try simp only [Act.put, List.setIfInBounds_toArray, List.set_cons_zero, List.set_cons_succ]
    refine wpAnyE_take (i := 10) (v := undef) (some 26) rfl rfl (by kernel_rfl) (by kernel_rfl) (by kernel_rfl) (fun _ _ _ h => h) (Or.inr ⟨by rfl, rfl⟩) ?_
    try simp only [Act.put, List.setIfInBounds_toArray, List.set_cons_zero, List.set_cons_succ]
    refine wpAnyE_take (i := 11) (v := ?_) (some 27) rfl rfl (by kernel_rfl) (by kernel_rfl) (by kernel_rfl) (fun _ _ _ h => h) ?_ ?_
    rotate_left 1
    · (refine Or.inl ⟨by rfl, ?_⟩; intro w' hw'; have hq := below_via hcur hw'; have hq_e0 := Ext.trans e0 hw'; (try go_simp); (try rfl); done)
    try simp only [Act.put, List.setIfInBounds_toArray, List.set_cons_zero, List.set_cons_succ]
    refine wpAnyE_take (i := 12) (v := ?_) (some 28) rfl rfl (by kernel_rfl) (by kernel_rfl) (by kernel_rfl) (fun _ _ _ h => h) ?_ ?_
    rotate_left 1
    · (refine Or.inl ⟨by rfl, ?_⟩; intro w' hw'; have hq := below_via hcur hw'; have hq_e0 := Ext.trans e0 hw'; (try go_simp); (try rfl); done)
    try simp only [Act.put, List.setIfInBounds_toArray, List.set_cons_zero, List.set_cons_succ]
    refine wpAnyE_take (i := 13) (v := undef) (some 29) rfl rfl (by kernel_rfl) (by kernel_rfl) (by kernel_rfl) (fun _ _ _ h => h) (Or.inr ⟨by rfl, rfl⟩) ?_
    try simp only [Act.put, List.setIfInBounds_toArray, List.set_cons_zero, List.set_cons_succ]
    refine wpAnyE_take (i := 14) (v := undef) (some 30) rfl rfl (by kernel_rfl) (by kernel_rfl) (by kernel_rfl) (fun _ _ _ h => h) (Or.inr ⟨by rfl, rfl⟩) ?_
    try simp only [Act.put, List.setIfInBounds_toArray, List.set_cons_zero, List.set_cons_succ]
    refine wpAnyE_take (i := 15) (v := undef) (some 31) rfl rfl (by kernel_rfl) (by kernel_rfl) (by kernel_rfl) (fun _ _ _ h => h) (Or.inr ⟨by rfl, rfl⟩) ?_
    try simp only [Act.put, List.setIfInBounds_toArray, List.set_cons_zero, List.set_cons_succ]
    refine wpAnyE_take (i := 16) (v := undef) (some 32) rfl rfl (by kernel_rfl) (by kernel_rfl) (by kernel_rfl) (fun _ _ _ h => h) (Or.inr ⟨by rfl, rfl⟩) ?_
    try simp only [Act.put, List.setIfInBounds_toArray, List.set_cons_zero, List.set_cons_succ]
    refine wpAnyE_take (i := 17) (v := undef) (some 33) rfl rfl (by kernel_rfl) (by kernel_rfl) (by kernel_rfl) (fun _ _ _ h => h) (Or.inr ⟨by rfl, rfl⟩) ?_
    try simp only [Act.put, List.setIfInBounds_toArray, List.set_cons_zero, List.set_cons_succ]
    refine wpAnyE_take (i := 18) (v := undef) (some 34) rfl rfl (by kernel_rfl) (by kernel_rfl) (by kernel_rfl) (fun _ _ _ h => h) (Or.inr ⟨by rfl, rfl⟩) ?_
    try simp only [Act.put, List.setIfInBounds_toArray, List.set_cons_zero, List.set_cons_succ]
    refine wpAnyE_take (i := 19) (v := ?_) (some 35) rfl rfl (by kernel_rfl) (by kernel_rfl) (by kernel_rfl) (fun _ _ _ h => h) ?_ ?_
    rotate_left 1
    · (refine Or.inl ⟨by rfl, ?_⟩; intro w' hw'; have hq := below_via hcur hw'; have hq_e0 := Ext.trans e0 hw'; (try go_simp); (try rfl); done)
    try simp only [Act.put, List.setIfInBounds_toArray, List.set_cons_zero, List.set_cons_succ]
    refine wpAnyE_done (by kernel_rfl) ?_ _
    have hR' := hR.below e0
    generalize World.drew W = W1 at *
    have hR1 := hR'.set0 (.slice none 0 0)
    have hR2 := hR1.set1 (.slice none 0 0)
    have c0 := hR'.c0
    have c1 := hR1.c1
    have hret := hR2.load rfl rfl
    have bz : Below w.heap.size w _ := below_setCell (k := 1) (below_setCell (k := 0) hcur (Nat.le_succ w.heap.size) (.slice none 0 0)) (Nat.le_succ w.heap.size) (.slice none 0 0)
    go_wp2_with fail
    exact ret_cell2 (v := .agg #[.slice none 0 0, .slice none 0 0]) Try.results21 rfl hret rfl ⟨_, rfl, ⟨_, _, rfl, slB_nil _, slB_nil _⟩, bz⟩
  · by_cases h4 : (l.length : Int) ≤ i
    · have d1 : decide (i < 0) = false := decide_eq_false h3
      have d2 : decide ((l.length : Int) ≤ i) = true := decide_eq_true h4
      go_enter Try.func21, Try.ntmps21
      go_wp2_with fail
      generalize World.alloc (World.alloc w _) _ = W at *
      have hcur : Below w.heap.size w W := b2
      have e0 := Ext.refl W
      refine wp_region_E (by kernel_rfl) ?_
      replace hcur := below_via hcur (ext_drew _)
      replace e0 := Ext.trans e0 (ext_drew _)
      refine wpAnyE_take (i := 0) (v := ?_) (some 16) rfl rfl (by kernel_rfl) (by kernel_rfl) (by kernel_rfl) (fun _ _ _ h => h) ?_ ?_
      rotate_left 1
      · (refine Or.inl ⟨by rfl, ?_⟩; intro w' hw'; have hq := below_via hcur hw'; have hq_e0 := Ext.trans e0 hw'; (try go_simp); (try rfl); done)
      try simp only [Act.put, List.setIfInBounds_toArray, List.set_cons_zero, List.set_cons_succ]
      refine wpAnyE_take (i := 1) (v := ?_) (some 17) rfl rfl (by kernel_rfl) (by kernel_rfl) (by kernel_rfl) (fun _ _ _ h => h) ?_ ?_
      rotate_left 1
      · (refine Or.inl ⟨by rfl, ?_⟩; intro w' hw'; have hq := below_via hcur hw'; have hq_e0 := Ext.trans e0 hw'; (try go_simp); (try rfl); done)
      try simp only [Act.put, List.setIfInBounds_toArray, List.set_cons_zero, List.set_cons_succ]
      refine wpAnyE_take (i := 2) (v := ?_) (some 18) rfl rfl (by kernel_rfl) (by kernel_rfl) (by kernel_rfl) (fun _ _ _ h => h) ?_ ?_
      rotate_left 1
      · (refine Or.inl ⟨by rfl, ?_⟩; intro w' hw'; have hq := below_via hcur hw'; have hq_e0 := Ext.trans e0 hw'; (try go_simp); (try rfl); done)
      try simp only [Act.put, List.setIfInBounds_toArray, List.set_cons_zero, List.set_cons_succ]
      refine wpAnyE_take (i := 3) (v := ?_) (some 19) rfl rfl (by kernel_rfl) (by kernel_rfl) (by kernel_rfl) (fun _ _ _ h => h) ?_ ?_
      rotate_left 1
      · (refine Or.inl ⟨by rfl, ?_⟩; intro w' hw'; have hq := below_via hcur hw'; have hq_e0 := Ext.trans e0 hw'; (try go_simp); (try rfl); done)
      try simp only [Act.put, List.setIfInBounds_toArray, List.set_cons_zero, List.set_cons_succ]
      refine wpAnyE_take (i := 4) (v := ?_) (some 20) rfl rfl (by kernel_rfl) (by kernel_rfl) (by kernel_rfl) (fun _ _ _ h => h) ?_ ?_
      rotate_left 1
      · (refine Or.inl ⟨by rfl, ?_⟩; intro w' hw'; have hq := below_via hcur hw'; have hq_e0 := Ext.trans e0 hw'; (try go_simp); (try rfl); done)
      try simp only [Act.put, List.setIfInBounds_toArray, List.set_cons_zero, List.set_cons_succ]
      refine wpAnyE_take (i := 5) (v := ?_) (some 21) rfl rfl (by kernel_rfl) (by kernel_rfl) (by kernel_rfl) (fun _ _ _ h => h) ?_ ?_
      rotate_left 1
      · (refine Or.inl ⟨by rfl, ?_⟩; intro w' hw'; have hq := below_via hcur hw'; have hq_e0 := Ext.trans e0 hw'; (try go_simp); (try rfl); done)
      try simp only [Act.put, List.setIfInBounds_toArray, List.set_cons_zero, List.set_cons_succ]
      refine wpAnyE_take (i := 6) (v := ?_) (some 22) rfl rfl (by kernel_rfl) (by kernel_rfl) (by kernel_rfl) (fun _ _ _ h => h) ?_ ?_
      rotate_left 1
      · (refine Or.inl ⟨by rfl, ?_⟩; intro w' hw'; have hq := below_via hcur hw'; have hq_e0 := Ext.trans e0 hw'; (try go_simp); (try rfl); done)
      try simp only [Act.put, List.setIfInBounds_toArray, List.set_cons_zero, List.set_cons_succ]
      refine wpAnyE_take (i := 7) (v := ?_) (some 23) rfl rfl (by kernel_rfl) (by kernel_rfl) (by kernel_rfl) (fun _ _ _ h => h) ?_ ?_
      rotate_left 1
      · (refine Or.inl ⟨by rfl, ?_⟩; intro w' hw'; have hq := below_via hcur hw'; have hq_e0 := Ext.trans e0 hw'; (try go_simp); (try rfl); done)
      try simp only [Act.put, List.setIfInBounds_toArray, List.set_cons_zero, List.set_cons_succ]
      refine wpAnyE_take (i := 8) (v := ?_) (some 24) rfl rfl (by kernel_rfl) (by kernel_rfl) (by kernel_rfl) (fun _ _ _ h => h) ?_ ?_
      rotate_left 1
      · (refine Or.inl ⟨by rfl, ?_⟩; intro w' hw'; have hq := below_via hcur hw'; have hq_e0 := Ext.trans e0 hw'; (try go_simp); (try rfl); done)
      try simp only [Act.put, List.setIfInBounds_toArray, List.set_cons_zero, List.set_cons_succ]
      refine wpAnyE_take (i := 9) (v := ?_) (some 25) rfl rfl (by kernel_rfl) (by kernel_rfl) (by kernel_rfl) (fun _ _ _ h => h) ?_ ?_
      rotate_left 1
      · (refine Or.inl ⟨by rfl, ?_⟩; intro w' hw'; have hq := below_via hcur hw'; have hq_e0 := Ext.trans e0 hw'; (try go_simp); (try rfl); done)
      try simp only [Act.put, List.setIfInBounds_toArray, List.set_cons_zero, List.set_cons_succ]
      refine wpAnyE_take (i := 10) (v := ?_) (some 26) rfl rfl (by kernel_rfl) (by kernel_rfl) (by kernel_rfl) (fun _ _ _ h => h) ?_ ?_
      rotate_left 1
      · (refine Or.inl ⟨by rfl, ?_⟩; intro w' hw'; have hq := below_via hcur hw'; have hq_e0 := Ext.trans e0 hw'; (try go_simp); (try rfl); done)
      try simp only [Act.put, List.setIfInBounds_toArray, List.set_cons_zero, List.set_cons_succ]
      refine wpAnyE_take (i := 11) (v := ?_) (some 27) rfl rfl (by kernel_rfl) (by kernel_rfl) (by kernel_rfl) (fun _ _ _ h => h) ?_ ?_
      rotate_left 1
      · (refine Or.inl ⟨by rfl, ?_⟩; intro w' hw'; have hq := below_via hcur hw'; have hq_e0 := Ext.trans e0 hw'; (try go_simp); (try rfl); done)
      try simp only [Act.put, List.setIfInBounds_toArray, List.set_cons_zero, List.set_cons_succ]
      refine wpAnyE_take (i := 12) (v := ?_) (some 28) rfl rfl (by kernel_rfl) (by kernel_rfl) (by kernel_rfl) (fun _ _ _ h => h) ?_ ?_
      rotate_left 1
      · (refine Or.inl ⟨by rfl, ?_⟩; intro w' hw'; have hq := below_via hcur hw'; have hq_e0 := Ext.trans e0 hw'; (try go_simp); (try rfl); done)
      try simp only [Act.put, List.setIfInBounds_toArray, List.set_cons_zero, List.set_cons_succ]
      refine wpAnyE_take (i := 13) (v := undef) (some 29) rfl rfl (by kernel_rfl) (by kernel_rfl) (by kernel_rfl) (fun _ _ _ h => h) (Or.inr ⟨by rfl, rfl⟩) ?_
      try simp only [Act.put, List.setIfInBounds_toArray, List.set_cons_zero, List.set_cons_succ]
      refine wpAnyE_take (i := 14) (v := undef) (some 30) rfl rfl (by kernel_rfl) (by kernel_rfl) (by kernel_rfl) (fun _ _ _ h => h) (Or.inr ⟨by rfl, rfl⟩) ?_
      try simp only [Act.put, List.setIfInBounds_toArray, List.set_cons_zero, List.set_cons_succ]
      refine wpAnyE_take (i := 15) (v := undef) (some 31) rfl rfl (by kernel_rfl) (by kernel_rfl) (by kernel_rfl) (fun _ _ _ h => h) (Or.inr ⟨by rfl, rfl⟩) ?_
      try simp only [Act.put, List.setIfInBounds_toArray, List.set_cons_zero, List.set_cons_succ]
      refine wpAnyE_take (i := 16) (v := undef) (some 32) rfl rfl (by kernel_rfl) (by kernel_rfl) (by kernel_rfl) (fun _ _ _ h => h) (Or.inr ⟨by rfl, rfl⟩) ?_
      try simp only [Act.put, List.setIfInBounds_toArray, List.set_cons_zero, List.set_cons_succ]
      refine wpAnyE_take (i := 17) (v := undef) (some 33) rfl rfl (by kernel_rfl) (by kernel_rfl) (by kernel_rfl) (fun _ _ _ h => h) (Or.inr ⟨by rfl, rfl⟩) ?_
      try simp only [Act.put, List.setIfInBounds_toArray, List.set_cons_zero, List.set_cons_succ]
      refine wpAnyE_take (i := 18) (v := undef) (some 34) rfl rfl (by kernel_rfl) (by kernel_rfl) (by kernel_rfl) (fun _ _ _ h => h) (Or.inr ⟨by rfl, rfl⟩) ?_
      try simp only [Act.put, List.setIfInBounds_toArray, List.set_cons_zero, List.set_cons_succ]
      refine wpAnyE_take (i := 19) (v := ?_) (some 35) rfl rfl (by kernel_rfl) (by kernel_rfl) (by kernel_rfl) (fun _ _ _ h => h) ?_ ?_
      rotate_left 1
      · (refine Or.inl ⟨by rfl, ?_⟩; intro w' hw'; have hq := below_via hcur hw'; have hq_e0 := Ext.trans e0 hw'; (try go_simp); (try rfl); done)
      try simp only [Act.put, List.setIfInBounds_toArray, List.set_cons_zero, List.set_cons_succ]
      refine wpAnyE_done (by kernel_rfl) ?_ _
      have hR' := hR.below e0
      generalize World.drew W = W1 at *
      have hR1 := hR'.set0 (.slice none 0 0)
      have hR2 := hR1.set1 (.slice none 0 0)
      have c0 := hR'.c0
      have c1 := hR1.c1
      have hret := hR2.load rfl rfl
      have bz : Below w.heap.size w _ := below_setCell (k := 1) (below_setCell (k := 0) hcur (Nat.le_succ w.heap.size) (.slice none 0 0)) (Nat.le_succ w.heap.size) (.slice none 0 0)
      go_wp2_with fail
      exact ret_cell2 (v := .agg #[.slice none 0 0, .slice none 0 0]) Try.results21 rfl hret rfl ⟨_, rfl, ⟨_, _, rfl, slB_nil _, slB_nil _⟩, bz⟩
    · obtain rfl : b = l.getD i.toNat [] := by rcases hn with h | h | h
                                               · exact absurd h h3
                                               · exact absurd h h4
                                               · exact h
      obtain ⟨n, rfl⟩ : ∃ n : Nat, i = n := ⟨i.toNat, by omega⟩
      rw [Int.toNat_natCast] at *
      have hnl : n < l.length := by omega
      have hl2 := hl.below b2
      have hb2 := hb.below b2
      obtain ⟨ad, u, rfl, hcell, hu, hone⟩ := hl2.get hnl
      generalize l.getD n [] = x at *
      obtain ⟨Au, cu, rfl, _⟩ := id hu
      go_enter Try.func21, Try.ntmps21
      go_wp2_with fail
      generalize World.alloc (World.alloc w _) _ = W at *
      have l1 := fun w' (h : Ext W w') => (hL.below h).cell.1
      have l2 := fun w' (h : Ext W w') => (h.cell (World.block_lt_of_cell? _ _ hcell)).trans hcell
      have ke := fun w' (h : Ext W w') => equal_any _ _ x x w' (hb2.below h) (hu.below h)
      rw [decide_eq_true rfl] at ke
      have d1 : decide ((n : Int) < 0) = false := decide_eq_false (by omega)
      have d2 : decide (l.length ≤ n) = false := decide_eq_false (by omega)
      have i0 : (0 : Int) ≤ n := by omega
      have i1 : (n : Int) < l.length := by omega
      have hcur : Below w.heap.size w W := b2
      have e0 := Ext.refl W
      refine wp_region_E (by kernel_rfl) ?_
      replace hcur := below_via hcur (ext_drew _)
      replace e0 := Ext.trans e0 (ext_drew _)
      refine wpAnyE_take (i := 0) (v := ?_) (some 16) rfl rfl (by kernel_rfl) (by kernel_rfl) (by kernel_rfl) (fun _ _ _ h => h) ?_ ?_
      rotate_left 1
      · (refine Or.inl ⟨by rfl, ?_⟩; intro w' hw'; have hq := below_via hcur hw'; have hq_e0 := Ext.trans e0 hw'; have hz_l1 := l1 _ hq_e0; have hz_l2 := l2 _ hq_e0; (try go_simp); (try rfl); done)
      try simp only [Act.put, List.setIfInBounds_toArray, List.set_cons_zero, List.set_cons_succ]
      refine wpAnyE_take (i := 1) (v := ?_) (some 17) rfl rfl (by kernel_rfl) (by kernel_rfl) (by kernel_rfl) (fun _ _ _ h => h) ?_ ?_
      rotate_left 1
      · (refine Or.inl ⟨by rfl, ?_⟩; intro w' hw'; have hq := below_via hcur hw'; have hq_e0 := Ext.trans e0 hw'; have hz_l1 := l1 _ hq_e0; have hz_l2 := l2 _ hq_e0; (try go_simp); (try rfl); done)
      try simp only [Act.put, List.setIfInBounds_toArray, List.set_cons_zero, List.set_cons_succ]
      refine wpAnyE_take (i := 2) (v := ?_) (some 18) rfl rfl (by kernel_rfl) (by kernel_rfl) (by kernel_rfl) (fun _ _ _ h => h) ?_ ?_
      rotate_left 1
      · (refine Or.inl ⟨by rfl, ?_⟩; intro w' hw'; have hq := below_via hcur hw'; have hq_e0 := Ext.trans e0 hw'; have hz_l1 := l1 _ hq_e0; have hz_l2 := l2 _ hq_e0; (try go_simp); (try rfl); done)
      try simp only [Act.put, List.setIfInBounds_toArray, List.set_cons_zero, List.set_cons_succ]
      refine wpAnyE_take (i := 3) (v := ?_) (some 19) rfl rfl (by kernel_rfl) (by kernel_rfl) (by kernel_rfl) (fun _ _ _ h => h) ?_ ?_
      rotate_left 1
      · (refine Or.inl ⟨by rfl, ?_⟩; intro w' hw'; have hq := below_via hcur hw'; have hq_e0 := Ext.trans e0 hw'; have hz_l1 := l1 _ hq_e0; have hz_l2 := l2 _ hq_e0; (try go_simp); (try rfl); done)
      try simp only [Act.put, List.setIfInBounds_toArray, List.set_cons_zero, List.set_cons_succ]
      refine wpAnyE_take (i := 4) (v := ?_) (some 20) rfl rfl (by kernel_rfl) (by kernel_rfl) (by kernel_rfl) (fun _ _ _ h => h) ?_ ?_
      rotate_left 1
      · (refine Or.inl ⟨by rfl, ?_⟩; intro w' hw'; have hq := below_via hcur hw'; have hq_e0 := Ext.trans e0 hw'; have hz_l1 := l1 _ hq_e0; have hz_l2 := l2 _ hq_e0; (try go_simp); (try rfl); done)
      try simp only [Act.put, List.setIfInBounds_toArray, List.set_cons_zero, List.set_cons_succ]
      refine wpAnyE_take (i := 5) (v := ?_) (some 21) rfl rfl (by kernel_rfl) (by kernel_rfl) (by kernel_rfl) (fun _ _ _ h => h) ?_ ?_
      rotate_left 1
      · (refine Or.inl ⟨by rfl, ?_⟩; intro w' hw'; have hq := below_via hcur hw'; have hq_e0 := Ext.trans e0 hw'; have hz_l1 := l1 _ hq_e0; have hz_l2 := l2 _ hq_e0; (try go_simp); (try rfl); done)
      try simp only [Act.put, List.setIfInBounds_toArray, List.set_cons_zero, List.set_cons_succ]
      refine wpAnyE_take (i := 6) (v := ?_) (some 22) rfl rfl (by kernel_rfl) (by kernel_rfl) (by kernel_rfl) (fun _ _ _ h => h) ?_ ?_
      rotate_left 1
      · (refine Or.inl ⟨by rfl, ?_⟩; intro w' hw'; have hq := below_via hcur hw'; have hq_e0 := Ext.trans e0 hw'; have hz_l1 := l1 _ hq_e0; have hz_l2 := l2 _ hq_e0; (try go_simp); (try rfl); done)
      try simp only [Act.put, List.setIfInBounds_toArray, List.set_cons_zero, List.set_cons_succ]
      refine wpAnyE_take (i := 7) (v := ?_) (some 23) rfl rfl (by kernel_rfl) (by kernel_rfl) (by kernel_rfl) (fun _ _ _ h => h) ?_ ?_
      rotate_left 1
      · (refine Or.inl ⟨by rfl, ?_⟩; intro w' hw'; have hq := below_via hcur hw'; have hq_e0 := Ext.trans e0 hw'; have hz_l1 := l1 _ hq_e0; have hz_l2 := l2 _ hq_e0; (try go_simp); (try rfl); done)
      try simp only [Act.put, List.setIfInBounds_toArray, List.set_cons_zero, List.set_cons_succ]
      refine wpAnyE_take (i := 8) (v := ?_) (some 24) rfl rfl (by kernel_rfl) (by kernel_rfl) (by kernel_rfl) (fun _ _ _ h => h) ?_ ?_
      rotate_left 1
      · (refine Or.inl ⟨by rfl, ?_⟩; intro w' hw'; have hq := below_via hcur hw'; have hq_e0 := Ext.trans e0 hw'; have hz_l1 := l1 _ hq_e0; have hz_l2 := l2 _ hq_e0; (try go_simp); (try rfl); done)
      try simp only [Act.put, List.setIfInBounds_toArray, List.set_cons_zero, List.set_cons_succ]
      refine wpAnyE_take (i := 9) (v := ?_) (some 25) rfl rfl (by kernel_rfl) (by kernel_rfl) (by kernel_rfl) (fun _ _ _ h => h) ?_ ?_
      rotate_left 1
      · (refine Or.inl ⟨by rfl, ?_⟩; intro w' hw'; have hq := below_via hcur hw'; have hq_e0 := Ext.trans e0 hw'; have hz_l1 := l1 _ hq_e0; have hz_l2 := l2 _ hq_e0; (try go_simp); (try rfl); done)
      try simp only [Act.put, List.setIfInBounds_toArray, List.set_cons_zero, List.set_cons_succ]
      refine wpAnyE_take (i := 10) (v := ?_) (some 26) rfl rfl (by kernel_rfl) (by kernel_rfl) (by kernel_rfl) (fun _ _ _ h => h) ?_ ?_
      rotate_left 1
      · (refine Or.inl ⟨by rfl, ?_⟩; intro w' hw'; have hq := below_via hcur hw'; have hq_e0 := Ext.trans e0 hw'; have hz_l1 := l1 _ hq_e0; have hz_l2 := l2 _ hq_e0; (try go_simp); (try rfl); done)
      try simp only [Act.put, List.setIfInBounds_toArray, List.set_cons_zero, List.set_cons_succ]
      refine wpAnyE_take (i := 11) (v := ?_) (some 27) rfl rfl (by kernel_rfl) (by kernel_rfl) (by kernel_rfl) (fun _ _ _ h => h) ?_ ?_
      rotate_left 1
      · (refine Or.inl ⟨by rfl, ?_⟩; intro w' hw'; have hq := below_via hcur hw'; have hq_e0 := Ext.trans e0 hw'; have hz_l1 := l1 _ hq_e0; have hz_l2 := l2 _ hq_e0; (try go_simp); (try rfl); done)
      try simp only [Act.put, List.setIfInBounds_toArray, List.set_cons_zero, List.set_cons_succ]
      refine wpAnyE_take (i := 12) (v := ?_) (some 28) rfl rfl (by kernel_rfl) (by kernel_rfl) (by kernel_rfl) (fun _ _ _ h => h) ?_ ?_
      rotate_left 1
      · (refine Or.inl ⟨by rfl, ?_⟩; intro w' hw'; have hq := below_via hcur hw'; have hq_e0 := Ext.trans e0 hw'; have hz_l1 := l1 _ hq_e0; have hz_l2 := l2 _ hq_e0; (try go_simp); (try rfl); done)
      try simp only [Act.put, List.setIfInBounds_toArray, List.set_cons_zero, List.set_cons_succ]
      refine wpAnyE_take (i := 13) (v := ?_) (some 29) rfl rfl (by kernel_rfl) (by kernel_rfl) (by kernel_rfl) (fun _ _ _ h => h) ?_ ?_
      rotate_left 1
      · (refine Or.inl ⟨by rfl, ?_⟩; intro w' hw'; have hq := below_via hcur hw'; have hq_e0 := Ext.trans e0 hw'; have hz_l1 := l1 _ hq_e0; have hz_l2 := l2 _ hq_e0; (try go_simp); (try rfl); done)
      try simp only [Act.put, List.setIfInBounds_toArray, List.set_cons_zero, List.set_cons_succ]
      refine wpAnyE_take (i := 14) (v := ?_) (some 30) rfl rfl (by kernel_rfl) (by kernel_rfl) (by kernel_rfl) (fun _ _ _ h => h) ?_ ?_
      rotate_left 1
      · (refine Or.inl ⟨by rfl, ?_⟩; intro w' hw'; have hq := below_via hcur hw'; have hq_e0 := Ext.trans e0 hw'; have hz_l1 := l1 _ hq_e0; have hz_l2 := l2 _ hq_e0; (try go_simp); (try rfl); done)
      try simp only [Act.put, List.setIfInBounds_toArray, List.set_cons_zero, List.set_cons_succ]
      refine wpAnyE_take (i := 15) (v := ?_) (some 31) rfl rfl (by kernel_rfl) (by kernel_rfl) (by kernel_rfl) (fun _ _ _ h => h) ?_ ?_
      rotate_left 1
      · (refine Or.inl ⟨by rfl, ?_⟩; intro w' hw'; have hq := below_via hcur hw'; have hq_e0 := Ext.trans e0 hw'; have hz_l1 := l1 _ hq_e0; have hz_l2 := l2 _ hq_e0; (try go_simp); (try rfl); done)
      try simp only [Act.put, List.setIfInBounds_toArray, List.set_cons_zero, List.set_cons_succ]
      refine wpAnyE_take (i := 16) (v := ?_) (some 32) rfl rfl (by kernel_rfl) (by kernel_rfl) (by kernel_rfl) (fun _ _ _ h => h) ?_ ?_
      rotate_left 1
      · (refine Or.inl ⟨by rfl, ?_⟩; intro w' hw'; have hq := below_via hcur hw'; have hq_e0 := Ext.trans e0 hw'; have hz_l1 := l1 _ hq_e0; have hz_l2 := l2 _ hq_e0; (try go_simp); (try rfl); done)
      try simp only [Act.put, List.setIfInBounds_toArray, List.set_cons_zero, List.set_cons_succ]
      refine wpAnyE_take (i := 17) (v := ?_) (some 33) rfl rfl (by kernel_rfl) (by kernel_rfl) (by kernel_rfl) (fun _ _ _ h => h) ?_ ?_
      rotate_left 1
      · (refine Or.inl ⟨by rfl, ?_⟩; intro w' hw'; have hq := below_via hcur hw'; have hq_e0 := Ext.trans e0 hw'; have hz_l1 := l1 _ hq_e0; have hz_l2 := l2 _ hq_e0; (try go_simp); (try rfl); done)
      try simp only [Act.put, List.setIfInBounds_toArray, List.set_cons_zero, List.set_cons_succ]
      refine wpAnyE_one (i := 18) rfl (by kernel_rfl) (by rfl) (fun K hK => ?_)
      go_simp
      (with_reducible refine (ke _ e0).mono ?_); rintro e w5 ⟨rfl, rfl⟩
      refine hK.out _ _ (Ext.refl _) ?_
      clear hK K
      try simp only [Act.put, List.setIfInBounds_toArray, List.set_cons_zero, List.set_cons_succ]
      refine wpAnyE_take (i := 19) (v := ?_) (some 35) rfl rfl (by kernel_rfl) (by kernel_rfl) (by kernel_rfl) (fun _ _ _ h => h) ?_ ?_
      rotate_left 1
      · (refine Or.inl ⟨by rfl, ?_⟩; intro w' hw'; have hq := below_via hcur hw'; have hq_e0 := Ext.trans e0 hw'; have hz_l1 := l1 _ hq_e0; have hz_l2 := l2 _ hq_e0; (try go_simp); (try rfl); done)
      try simp only [Act.put, List.setIfInBounds_toArray, List.set_cons_zero, List.set_cons_succ]
      refine wpAnyE_done (by kernel_rfl) ?_ _
      have hR' := hR.below e0
      generalize World.drew W = W1 at *
      have hR1 := hR'.set0 (.slice none 0 0)
      have hR2 := hR1.set1 (.slice none 0 0)
      have c0 := hR'.c0
      have c1 := hR1.c1
      have hret := hR2.load rfl rfl
      have bz : Below w.heap.size w _ := below_setCell (k := 1) (below_setCell (k := 0) hcur (Nat.le_succ w.heap.size) (.slice none 0 0)) (Nat.le_succ w.heap.size) (.slice none 0 0)
      go_wp2_with fail
      exact ret_cell2 (v := .agg #[.slice none 0 0, .slice none 0 0]) Try.results21 rfl hret rfl ⟨_, rfl, ⟨_, _, rfl, slB_nil _, slB_nil _⟩, bz⟩
theorem includedL_in {k n : Nat} {l : List (List UInt8)} {b : List UInt8} {ps : List (List UInt8)} (hnl : n < l.length) (hne : b ≠ l.getD n []) :
    includedL k l n b ps = if (upN k b l.length l n ps).fits = true ∧ (upN k b l.length l n ps).new = rootX k l then (upN k b l.length l n ps).p else none := by
  unfold includedL
  have : ¬ ((n : Int) < 0 ∨ (l.length : Int) ≤ n ∨ b = l.getD (n : Int).toNat []) := by
    rw [Int.toNat_natCast]
    intro h
    rcases h with h | h | h
    · omega
    · omega
    · exact hne h
  rw [if_neg this, Int.toNat_natCast]
theorem alloc4 {w W : World} {o1 o2 o3 o4 : Obj} (hW : (((w.alloc o1).alloc o2).alloc o3).alloc o4 = W) :
    W.heap[w.heap.size]? = some o1 ∧ W.heap[w.heap.size + 1]? = some o2 ∧ W.heap[w.heap.size + 1 + 1]? = some o3 ∧ W.heap[w.heap.size + 1 + 1 + 1]? = some o4 ∧ Ext w W ∧ W.heap.size = w.heap.size + 4 := by
  subst hW
  refine ⟨?_, ?_, ?_, ?_, Ext.trans (Ext.trans (ext_alloc _ _) (ext_alloc _ _)) (Ext.trans (ext_alloc _ _) (ext_alloc _ _)), by simp [size_alloc]⟩
  · rw [Below.heap_alloc _ _ _ (by simp only [size_alloc]; omega), Below.heap_alloc _ _ _ (by simp only [size_alloc]; omega), Below.heap_alloc _ _ _ (by simp only [size_alloc]; omega)]; exact heap_alloc_new _ _
  · rw [Below.heap_alloc _ _ _ (by simp only [size_alloc]; omega), Below.heap_alloc _ _ _ (by simp only [size_alloc]; omega)]
    have := heap_alloc_new (w.alloc o1) o2
    rwa [size_alloc] at this
  · rw [Below.heap_alloc _ _ _ (by simp only [size_alloc]; omega)]
    have := heap_alloc_new ((w.alloc o1).alloc o2) o3
    rwa [size_alloc, size_alloc] at this
  · have := heap_alloc_new (((w.alloc o1).alloc o2).alloc o3) o4
    rwa [size_alloc, size_alloc, size_alloc] at this
/-- What stands while the answer is found. -/
structure Fnd (w : World) (FB F G HD : Nat) (f : Bool) (hd : List UInt8) (w' : World) : Prop where
  below : Below w.heap.size w w'
  fb : C1 62 w' FB (.pointer (some ⟨F, 0, none⟩))
  fits : C1 4 w' G (.bool f)
  head : RowT 38 w' HD hd
theorem Fnd.ext {w w' w'' : World} {FB F G HD : Nat} {f : Bool} {hd : List UInt8} (h : Fnd w FB F G HD f hd w') (hb : Ext w' w'') : Fnd w FB F G HD f hd w'' :=
  ⟨Below.trans h.below (hb.mono h.below.size), h.fb.below hb, h.fits.below hb, h.head.below hb⟩
theorem Fnd.cell {w w' : World} {FB F G HD D j : Nat} {f : Bool} {hd : List UInt8} (h : Fnd w FB F G HD f hd w') (h0 : w.heap.size ≤ D) (h1 : FB ≠ D) (h2 : G ≠ D) (h3 : HD ≠ D) (u : Value) : Fnd w FB F G HD f hd (w'.setCell ⟨D, j, none⟩ u) :=
  ⟨below_setCell h.below h0 u, h.fb.other h1 _, h.fits.other h2 _, (Below.heap_setCell _ _ _ _ h3).trans h.head⟩
set_option maxHeartbeats 8000000 in
theorem included_go (g k : Nat) (hk : k ≤ 256) (vl : Value) (l : List (List UInt8)) (n : Nat) (vb : Value) (b : List UInt8) (vp : Value) (ps : List (List UInt8)) (w : World)
    (hl : SlX w vl l) (hb : SlB w vb b) (hp : SlD w vp ps) (hg : HvAt w g k) (hnl : n < l.length) (hne : b ≠ l.getD n []) (hll : l.length ≤ 1048576) (hz : ∀ z ∈ l, z.length ≤ 1048576) (hbl : b.length ≤ 1048576) :
    Calls Try.prog 21 #[hv g, vl, .int .i64 n, vb, vp] w fun e w' => ∃ v, e = .returned (.tuple #[v, .bool (includedL k l n b ps).isSome]) ∧ PairAt w' v (includedL k l n b ps) ∧ Below w.heap.size w w' := by
  have q1 := hv_eql g
  have hinc := includedL_in (k := k) (ps := ps) hnl hne
  obtain ⟨A, c, rfl, hc, hcm⟩ := hl.len
  obtain ⟨Ab, cb, rfl, hcb, hcbm, _⟩ := id hb
  obtain ⟨Ap, cp, rfl, hcp, hcpm, _⟩ := id hp.1
  obtain ⟨h1, h2, b2, z2⟩ := alloc2 (w := w) (o1 := .cells #[.slice Ab b.length cb] 23 (0, 0)) (o2 := .cells #[.slice none 0 0, .slice none 0 0] 30 (0, 0)) rfl
  have hL : C1 23 _ w.heap.size (.slice Ab b.length cb) := h1
  have hR : PR 30 _ (w.heap.size + 1) (.slice none 0 0) (.slice none 0 0) := h2
  clear h1 h2
  have hl2 := hl.below b2
  have hb2 := hb.below b2
  obtain ⟨ad, u, rfl, hcell, hu, hone⟩ := hl2.get hnl
  have hux := hu
  generalize l.getD n [] = x at hux hne
  obtain ⟨Au, cu, rfl, _⟩ := id hux
  unfold hv at *
  go_enter Try.func21, Try.ntmps21
  go_wp2_with fail
  generalize World.alloc (World.alloc w _) _ = W at *
  have l1 := fun w' (h : Ext W w') => (hL.below h).cell.1
  have l2 := fun w' (h : Ext W w') => (h.cell (World.block_lt_of_cell? _ _ hcell)).trans hcell
  have ke := fun w' (h : Ext W w') => equal_any _ _ b x w' (hb2.below h) (hux.below h)
  rw [decide_eq_false hne] at ke
  have i0 : (0 : Int) ≤ n := by omega
  have i1 : (n : Int) < l.length := by omega
  have d1 : decide ((n : Int) < 0) = false := decide_eq_false (by omega)
  have d2 : decide (l.length ≤ n) = false := decide_eq_false (by omega)
  have hcur : Below w.heap.size w W := b2
  have e0 := Ext.refl W
  refine wp_region_E (by kernel_rfl) ?_
  replace hcur := below_via hcur (ext_drew _)
  replace e0 := Ext.trans e0 (ext_drew _)
  refine wpAnyE_take (i := 0) (v := ?_) (some 16) rfl rfl (by kernel_rfl) (by kernel_rfl) (by kernel_rfl) (fun _ _ _ h => h) ?_ ?_
  rotate_left 1
  · (refine Or.inl ⟨by rfl, ?_⟩; intro w' hw'; have hq := below_via hcur hw'; have hq_e0 := Ext.trans e0 hw'; have hz_l1 := l1 _ hq_e0; have hz_l2 := l2 _ hq_e0; (try go_simp); (try rfl); done)
  try simp only [Act.put, List.setIfInBounds_toArray, List.set_cons_zero, List.set_cons_succ]
  refine wpAnyE_take (i := 1) (v := ?_) (some 17) rfl rfl (by kernel_rfl) (by kernel_rfl) (by kernel_rfl) (fun _ _ _ h => h) ?_ ?_
  rotate_left 1
  · (refine Or.inl ⟨by rfl, ?_⟩; intro w' hw'; have hq := below_via hcur hw'; have hq_e0 := Ext.trans e0 hw'; have hz_l1 := l1 _ hq_e0; have hz_l2 := l2 _ hq_e0; (try go_simp); (try rfl); done)
  try simp only [Act.put, List.setIfInBounds_toArray, List.set_cons_zero, List.set_cons_succ]
  refine wpAnyE_take (i := 2) (v := ?_) (some 18) rfl rfl (by kernel_rfl) (by kernel_rfl) (by kernel_rfl) (fun _ _ _ h => h) ?_ ?_
  rotate_left 1
  · (refine Or.inl ⟨by rfl, ?_⟩; intro w' hw'; have hq := below_via hcur hw'; have hq_e0 := Ext.trans e0 hw'; have hz_l1 := l1 _ hq_e0; have hz_l2 := l2 _ hq_e0; (try go_simp); (try rfl); done)
  try simp only [Act.put, List.setIfInBounds_toArray, List.set_cons_zero, List.set_cons_succ]
  refine wpAnyE_take (i := 3) (v := ?_) (some 19) rfl rfl (by kernel_rfl) (by kernel_rfl) (by kernel_rfl) (fun _ _ _ h => h) ?_ ?_
  rotate_left 1
  · (refine Or.inl ⟨by rfl, ?_⟩; intro w' hw'; have hq := below_via hcur hw'; have hq_e0 := Ext.trans e0 hw'; have hz_l1 := l1 _ hq_e0; have hz_l2 := l2 _ hq_e0; (try go_simp); (try rfl); done)
  try simp only [Act.put, List.setIfInBounds_toArray, List.set_cons_zero, List.set_cons_succ]
  refine wpAnyE_take (i := 4) (v := ?_) (some 20) rfl rfl (by kernel_rfl) (by kernel_rfl) (by kernel_rfl) (fun _ _ _ h => h) ?_ ?_
  rotate_left 1
  · (refine Or.inl ⟨by rfl, ?_⟩; intro w' hw'; have hq := below_via hcur hw'; have hq_e0 := Ext.trans e0 hw'; have hz_l1 := l1 _ hq_e0; have hz_l2 := l2 _ hq_e0; (try go_simp); (try rfl); done)
  try simp only [Act.put, List.setIfInBounds_toArray, List.set_cons_zero, List.set_cons_succ]
  refine wpAnyE_take (i := 5) (v := ?_) (some 21) rfl rfl (by kernel_rfl) (by kernel_rfl) (by kernel_rfl) (fun _ _ _ h => h) ?_ ?_
  rotate_left 1
  · (refine Or.inl ⟨by rfl, ?_⟩; intro w' hw'; have hq := below_via hcur hw'; have hq_e0 := Ext.trans e0 hw'; have hz_l1 := l1 _ hq_e0; have hz_l2 := l2 _ hq_e0; (try go_simp); (try rfl); done)
  try simp only [Act.put, List.setIfInBounds_toArray, List.set_cons_zero, List.set_cons_succ]
  refine wpAnyE_take (i := 6) (v := ?_) (some 22) rfl rfl (by kernel_rfl) (by kernel_rfl) (by kernel_rfl) (fun _ _ _ h => h) ?_ ?_
  rotate_left 1
  · (refine Or.inl ⟨by rfl, ?_⟩; intro w' hw'; have hq := below_via hcur hw'; have hq_e0 := Ext.trans e0 hw'; have hz_l1 := l1 _ hq_e0; have hz_l2 := l2 _ hq_e0; (try go_simp); (try rfl); done)
  try simp only [Act.put, List.setIfInBounds_toArray, List.set_cons_zero, List.set_cons_succ]
  refine wpAnyE_take (i := 7) (v := ?_) (some 23) rfl rfl (by kernel_rfl) (by kernel_rfl) (by kernel_rfl) (fun _ _ _ h => h) ?_ ?_
  rotate_left 1
  · (refine Or.inl ⟨by rfl, ?_⟩; intro w' hw'; have hq := below_via hcur hw'; have hq_e0 := Ext.trans e0 hw'; have hz_l1 := l1 _ hq_e0; have hz_l2 := l2 _ hq_e0; (try go_simp); (try rfl); done)
  try simp only [Act.put, List.setIfInBounds_toArray, List.set_cons_zero, List.set_cons_succ]
  refine wpAnyE_take (i := 8) (v := ?_) (some 24) rfl rfl (by kernel_rfl) (by kernel_rfl) (by kernel_rfl) (fun _ _ _ h => h) ?_ ?_
  rotate_left 1
  · (refine Or.inl ⟨by rfl, ?_⟩; intro w' hw'; have hq := below_via hcur hw'; have hq_e0 := Ext.trans e0 hw'; have hz_l1 := l1 _ hq_e0; have hz_l2 := l2 _ hq_e0; (try go_simp); (try rfl); done)
  try simp only [Act.put, List.setIfInBounds_toArray, List.set_cons_zero, List.set_cons_succ]
  refine wpAnyE_take (i := 9) (v := ?_) (some 25) rfl rfl (by kernel_rfl) (by kernel_rfl) (by kernel_rfl) (fun _ _ _ h => h) ?_ ?_
  rotate_left 1
  · (refine Or.inl ⟨by rfl, ?_⟩; intro w' hw'; have hq := below_via hcur hw'; have hq_e0 := Ext.trans e0 hw'; have hz_l1 := l1 _ hq_e0; have hz_l2 := l2 _ hq_e0; (try go_simp); (try rfl); done)
  try simp only [Act.put, List.setIfInBounds_toArray, List.set_cons_zero, List.set_cons_succ]
  refine wpAnyE_take (i := 10) (v := ?_) (some 26) rfl rfl (by kernel_rfl) (by kernel_rfl) (by kernel_rfl) (fun _ _ _ h => h) ?_ ?_
  rotate_left 1
  · (refine Or.inl ⟨by rfl, ?_⟩; intro w' hw'; have hq := below_via hcur hw'; have hq_e0 := Ext.trans e0 hw'; have hz_l1 := l1 _ hq_e0; have hz_l2 := l2 _ hq_e0; (try go_simp); (try rfl); done)
  try simp only [Act.put, List.setIfInBounds_toArray, List.set_cons_zero, List.set_cons_succ]
  refine wpAnyE_take (i := 11) (v := ?_) (some 27) rfl rfl (by kernel_rfl) (by kernel_rfl) (by kernel_rfl) (fun _ _ _ h => h) ?_ ?_
  rotate_left 1
  · (refine Or.inl ⟨by rfl, ?_⟩; intro w' hw'; have hq := below_via hcur hw'; have hq_e0 := Ext.trans e0 hw'; have hz_l1 := l1 _ hq_e0; have hz_l2 := l2 _ hq_e0; (try go_simp); (try rfl); done)
  try simp only [Act.put, List.setIfInBounds_toArray, List.set_cons_zero, List.set_cons_succ]
  refine wpAnyE_take (i := 12) (v := ?_) (some 28) rfl rfl (by kernel_rfl) (by kernel_rfl) (by kernel_rfl) (fun _ _ _ h => h) ?_ ?_
  rotate_left 1
  · (refine Or.inl ⟨by rfl, ?_⟩; intro w' hw'; have hq := below_via hcur hw'; have hq_e0 := Ext.trans e0 hw'; have hz_l1 := l1 _ hq_e0; have hz_l2 := l2 _ hq_e0; (try go_simp); (try rfl); done)
  try simp only [Act.put, List.setIfInBounds_toArray, List.set_cons_zero, List.set_cons_succ]
  refine wpAnyE_take (i := 13) (v := ?_) (some 29) rfl rfl (by kernel_rfl) (by kernel_rfl) (by kernel_rfl) (fun _ _ _ h => h) ?_ ?_
  rotate_left 1
  · (refine Or.inl ⟨by rfl, ?_⟩; intro w' hw'; have hq := below_via hcur hw'; have hq_e0 := Ext.trans e0 hw'; have hz_l1 := l1 _ hq_e0; have hz_l2 := l2 _ hq_e0; (try go_simp); (try rfl); done)
  try simp only [Act.put, List.setIfInBounds_toArray, List.set_cons_zero, List.set_cons_succ]
  refine wpAnyE_take (i := 14) (v := ?_) (some 30) rfl rfl (by kernel_rfl) (by kernel_rfl) (by kernel_rfl) (fun _ _ _ h => h) ?_ ?_
  rotate_left 1
  · (refine Or.inl ⟨by rfl, ?_⟩; intro w' hw'; have hq := below_via hcur hw'; have hq_e0 := Ext.trans e0 hw'; have hz_l1 := l1 _ hq_e0; have hz_l2 := l2 _ hq_e0; (try go_simp); (try rfl); done)
  try simp only [Act.put, List.setIfInBounds_toArray, List.set_cons_zero, List.set_cons_succ]
  refine wpAnyE_take (i := 15) (v := ?_) (some 31) rfl rfl (by kernel_rfl) (by kernel_rfl) (by kernel_rfl) (fun _ _ _ h => h) ?_ ?_
  rotate_left 1
  · (refine Or.inl ⟨by rfl, ?_⟩; intro w' hw'; have hq := below_via hcur hw'; have hq_e0 := Ext.trans e0 hw'; have hz_l1 := l1 _ hq_e0; have hz_l2 := l2 _ hq_e0; (try go_simp); (try rfl); done)
  try simp only [Act.put, List.setIfInBounds_toArray, List.set_cons_zero, List.set_cons_succ]
  refine wpAnyE_take (i := 16) (v := ?_) (some 32) rfl rfl (by kernel_rfl) (by kernel_rfl) (by kernel_rfl) (fun _ _ _ h => h) ?_ ?_
  rotate_left 1
  · (refine Or.inl ⟨by rfl, ?_⟩; intro w' hw'; have hq := below_via hcur hw'; have hq_e0 := Ext.trans e0 hw'; have hz_l1 := l1 _ hq_e0; have hz_l2 := l2 _ hq_e0; (try go_simp); (try rfl); done)
  try simp only [Act.put, List.setIfInBounds_toArray, List.set_cons_zero, List.set_cons_succ]
  refine wpAnyE_take (i := 17) (v := ?_) (some 33) rfl rfl (by kernel_rfl) (by kernel_rfl) (by kernel_rfl) (fun _ _ _ h => h) ?_ ?_
  rotate_left 1
  · (refine Or.inl ⟨by rfl, ?_⟩; intro w' hw'; have hq := below_via hcur hw'; have hq_e0 := Ext.trans e0 hw'; have hz_l1 := l1 _ hq_e0; have hz_l2 := l2 _ hq_e0; (try go_simp); (try rfl); done)
  try simp only [Act.put, List.setIfInBounds_toArray, List.set_cons_zero, List.set_cons_succ]
  refine wpAnyE_one (i := 18) rfl (by kernel_rfl) (by rfl) (fun K hK => ?_)
  go_simp
  (with_reducible refine (ke _ e0).mono ?_); rintro e w5 ⟨rfl, rfl⟩
  refine hK.out _ _ (Ext.refl _) ?_
  clear hK K
  try simp only [Act.put, List.setIfInBounds_toArray, List.set_cons_zero, List.set_cons_succ]
  refine wpAnyE_take (i := 19) (v := ?_) (some 35) rfl rfl (by kernel_rfl) (by kernel_rfl) (by kernel_rfl) (fun _ _ _ h => h) ?_ ?_
  rotate_left 1
  · (refine Or.inl ⟨by rfl, ?_⟩; intro w' hw'; have hq := below_via hcur hw'; have hq_e0 := Ext.trans e0 hw'; have hz_l1 := l1 _ hq_e0; have hz_l2 := l2 _ hq_e0; (try go_simp); (try rfl); done)
  try simp only [Act.put, List.setIfInBounds_toArray, List.set_cons_zero, List.set_cons_succ]
  refine wpAnyE_done (by kernel_rfl) ?_ _
  have hR' := hR.below e0
  have hL' := hL.below e0
  have z3 : Hid (W.drew.heap.size = w.heap.size + 2) := z2
  generalize World.drew W = W1 at *
  clear l1 l2 ke hcell hu hux hl2 hb2 hone e0 hR hL d1 d2
  go_wp2_with fail
  generalize hW2 : World.alloc (World.alloc (World.alloc (World.alloc W1 _) _) _) _ = W2
  obtain ⟨a1, a2, a3, a4, x2, z4⟩ := alloc4 hW2
  have hF2 : FindAt W2 W1.heap.size g none := a1
  have hG2 : C1 4 W2 (W1.heap.size + 1 + 1) (.bool true) := a3
  have hE2 : Env w W1.heap.size (W1.heap.size + 1 + 1) (W1.heap.size + 1) w.heap.size (W1.heap.size + 1 + 1 + 1) (.slice Ab b.length cb) W2 := ⟨Below.trans hcur (x2.mono hcur.size), a2, hL'.below x2, a4⟩
  have hD2 : Dis w W1.heap.size (W1.heap.size + 1 + 1) (W1.heap.size + 1) w.heap.size (W1.heap.size + 1 + 1 + 1) := by have := z3.out; constructor <;> omega
  have hR2 := hR'.below x2
  clear hW2 a1 a2 a3 a4 x2 z4 hL' hR'
  have hup := up_any w W1.heap.size (W1.heap.size + 1 + 1) (W1.heap.size + 1) w.heap.size (W1.heap.size + 1 + 1 + 1) g k (.slice Ab b.length cb) b hk hD2 hg hb hbl l.length _ l n _ ps W2 (Nat.le_refl _) hll hnl hz hl hp hE2 hF2 hG2
  have hwl := (upN_ok (k := k) hbl l.length l n ps (by omega) hz hp.2).2
  have hrl := rootX_length k l
  have hro := fun w' (h : Below w.heap.size w w') => root_any g k hk (.slice (some ad) l.length c) l w' hll hz (hl.below h) (hg.below h)
  generalize rootX k l = rt at *
  generalize upN k b l.length l n ps = way at *
  replace hinc : Hid _ := hinc
  have hEk := fun w' h => hE2.but (w' := w') hD2 h
  replace hD2 : Hid _ := hD2
  clear hl hb hp hg hz hne hE2 hF2 hG2
  have zR : Hid (w.heap.size + 1 < W1.heap.size) := by have := z3.out; unfold Hid; omega
  unfold hv at hro
  refine hup.mono ?_
  rintro e w5 ⟨rfl, f5, g5, m5⟩
  have hE5 : Env w W1.heap.size (W1.heap.size + 1 + 1) (W1.heap.size + 1) w.heap.size (W1.heap.size + 1 + 1 + 1) (.slice Ab b.length cb) w5 := hEk _ m5
  clear hEk
  have hR5 := hR2.but m5 (by have := zR.out; omega) (by have := zR.out; omega)
  go_wp2_with ((with_reducible refine at_store ?_); refine arr_dg.store_newL zer_length rfl hwl _ _ rfl rfl rfl ?_)
  have x6 := ext_alloc w5 (.cells (bs way.new).toArray 38 (0, 0))
  have hH6 : RowT 38 (w5.alloc (.cells (bs way.new).toArray 38 (0, 0))) w5.heap.size way.new := heap_alloc_new _ _
  have hE6 := hE5.ext x6
  have f6 := f5.below x6
  have g6 := g5.below x6
  have hR6 := hR5.below x6
  have zH : Hid (W1.heap.size < w5.heap.size) := f5.lt
  clear hR5 hE5 f5 g5 m5 x6 hR2
  generalize World.alloc w5 _ = W6 at *
  have hS : Fnd w (W1.heap.size + 1) W1.heap.size (W1.heap.size + 1 + 1) w5.heap.size way.fits way.new W6.drew := Fnd.ext ⟨hE6.below, hE6.fb, g6, hH6⟩ (ext_drew _)
  have f7 := f6.below (ext_drew _)
  have hR7 := hR6.below (ext_drew _)
  have qe := fun w' => arr_dg.eql way.new rt hwl hrl w'
  clear hE6 f6 g6 hH6 hR6
  cases hfit : way.fits with
  | true =>
    rw [hfit] at hS hinc
    clear hfit
    refine wp_region_S (fun w' => Fnd w (W1.heap.size + 1) W1.heap.size (W1.heap.size + 1 + 1) w5.heap.size true way.new w') (by kernel_rfl) ?_
    refine wpAnyS_take (i := 0) (v := ?_) hS (some 46) rfl rfl (by kernel_rfl) (by kernel_rfl) (by kernel_rfl) (fun _ _ _ h => h) ?_ ?_
    rotate_left 1
    · (refine Or.inl ⟨by rfl, ?_⟩; intro w' hw'; have hq1 := hw'.fb.cell.1; have hq2 := hw'.fits.cell.1; (try go_simp); (try rfl); done)
    try simp only [Act.put, List.setIfInBounds_toArray, List.set_cons_zero, List.set_cons_succ]
    refine wpAnyS_take (i := 1) (v := ?_) hS (some 47) rfl rfl (by kernel_rfl) (by kernel_rfl) (by kernel_rfl) (fun _ _ _ h => h) ?_ ?_
    rotate_left 1
    · (refine Or.inl ⟨by rfl, ?_⟩; intro w' hw'; have hq1 := hw'.fb.cell.1; have hq2 := hw'.fits.cell.1; (try go_simp); (try rfl); done)
    try simp only [Act.put, List.setIfInBounds_toArray, List.set_cons_zero, List.set_cons_succ]
    refine wpAnyS_take (i := 2) (v := ?_) hS (some 48) rfl rfl (by kernel_rfl) (by kernel_rfl) (by kernel_rfl) (fun _ _ _ h => h) ?_ ?_
    rotate_left 1
    · (refine Or.inl ⟨by rfl, ?_⟩; intro w' hw'; have hq1 := hw'.fb.cell.1; have hq2 := hw'.fits.cell.1; (try go_simp); (try rfl); done)
    try simp only [Act.put, List.setIfInBounds_toArray, List.set_cons_zero, List.set_cons_succ]
    refine wpAnyS_take (i := 3) (v := ?_) hS (some 49) rfl rfl (by kernel_rfl) (by kernel_rfl) (by kernel_rfl) (fun _ _ _ h => h) ?_ ?_
    rotate_left 1
    · (refine Or.inl ⟨by rfl, ?_⟩; intro w' hw'; have hq1 := hw'.fb.cell.1; have hq2 := hw'.fits.cell.1; (refine arr_dg.ex hw'.head hwl (.tmp 15) ?_ ?_ <;> rfl))
    try simp only [Act.put, List.setIfInBounds_toArray, List.set_cons_zero, List.set_cons_succ]
    refine wpAnyS_take (i := 4) (v := ?_) hS (some 50) rfl rfl (by kernel_rfl) (by kernel_rfl) (by kernel_rfl) (fun _ _ _ h => h) ?_ ?_
    rotate_left 1
    · (refine Or.inl ⟨by rfl, ?_⟩; intro w' hw'; have hq1 := hw'.fb.cell.1; have hq2 := hw'.fits.cell.1; (try go_simp); (try rfl); done)
    try simp only [Act.put, List.setIfInBounds_toArray, List.set_cons_zero, List.set_cons_succ]
    refine wpAnyS_take (i := 5) (v := ?_) hS (some 51) rfl rfl (by kernel_rfl) (by kernel_rfl) (by kernel_rfl) (fun _ _ _ h => h) ?_ ?_
    rotate_left 1
    · (refine Or.inl ⟨by rfl, ?_⟩; intro w' hw'; have hq1 := hw'.fb.cell.1; have hq2 := hw'.fits.cell.1; (try go_simp); (try rfl); done)
    try simp only [Act.put, List.setIfInBounds_toArray, List.set_cons_zero, List.set_cons_succ]
    refine wpAnyS_one (i := 6) rfl (by kernel_rfl) (by rfl) (fun K hK => ?_)
    go_simp
    (with_reducible refine (hro _ hS.below).mono ?_); rintro e w7 ⟨rfl, b7⟩
    have f8 := f7.below b7
    have hR8 := hR7.below b7
    have hb := hS.ext b7
    refine hK.out _ _ hb ?_
    replace hS := hb
    clear hK K hb
    try simp only [Act.put, List.setIfInBounds_toArray, List.set_cons_zero, List.set_cons_succ]
    refine wpAnyS_take (i := 7) (v := ?_) hS (some 53) rfl rfl (by kernel_rfl) (by kernel_rfl) (by kernel_rfl) (fun _ _ _ h => h) ?_ ?_
    rotate_left 1
    · (refine Or.inl ⟨by rfl, ?_⟩; intro w' hw'; have hq1 := hw'.fb.cell.1; have hq2 := hw'.fits.cell.1; (try go_simp); (try rfl); done)
    try simp only [Act.put, List.setIfInBounds_toArray, List.set_cons_zero, List.set_cons_succ]
    refine wpAnyS_take (i := 8) (v := ?_) hS (some 54) rfl rfl (by kernel_rfl) (by kernel_rfl) (by kernel_rfl) (fun _ _ _ h => h) ?_ ?_
    rotate_left 1
    · (refine Or.inl ⟨by rfl, ?_⟩; intro w' hw'; have hq1 := hw'.fb.cell.1; have hq2 := hw'.fits.cell.1; (try go_simp); (try rfl); done)
    try simp only [Act.put, List.setIfInBounds_toArray, List.set_cons_zero, List.set_cons_succ]
    refine wpAnyS_one (i := 9) rfl (by kernel_rfl) (by rfl) (fun K hK => ?_)
    go_simp
    (with_reducible refine (found_any W1.heap.size g way.p (way.new == rt) w7 f8).mono ?_); rintro e w8 ⟨v8, rfl, hp8, b8⟩
    generalize hfo : (if (way.new == rt) = true then way.p else none) = fo at *
    replace hfo : Hid _ := hfo
    have hb := hS.ext b8
    have hR9 := hR8.below b8
    obtain ⟨va, vb', rfl, s8, t8⟩ := hp8
    obtain ⟨A8, c8, rfl, _⟩ := id s8
    obtain ⟨A9, c9, rfl, _⟩ := id t8
    generalize hx1 : (fo.getD ([], [])).1 = x1 at *
    generalize hx2 : (fo.getD ([], [])).2 = x2 at *
    replace hx1 : Hid _ := hx1
    replace hx2 : Hid _ := hx2
    refine hK.out _ _ hb ?_
    replace hS := hb
    clear hK K hb
    try simp only [Act.put, List.setIfInBounds_toArray, List.set_cons_zero, List.set_cons_succ]
    refine wpAnyS_take (i := 10) (v := ?_) hS (some 56) rfl rfl (by kernel_rfl) (by kernel_rfl) (by kernel_rfl) (fun _ _ _ h => h) ?_ ?_
    rotate_left 1
    · (refine Or.inl ⟨by rfl, ?_⟩; intro w' hw'; have hq1 := hw'.fb.cell.1; have hq2 := hw'.fits.cell.1; (try go_simp); (try rfl); done)
    try simp only [Act.put, List.setIfInBounds_toArray, List.set_cons_zero, List.set_cons_succ]
    refine wpAnyS_take (i := 11) (v := ?_) hS (some 57) rfl rfl (by kernel_rfl) (by kernel_rfl) (by kernel_rfl) (fun _ _ _ h => h) ?_ ?_
    rotate_left 1
    · (refine Or.inl ⟨by rfl, ?_⟩; intro w' hw'; have hq1 := hw'.fb.cell.1; have hq2 := hw'.fits.cell.1; (try go_simp); (try rfl); done)
    try simp only [Act.put, List.setIfInBounds_toArray, List.set_cons_zero, List.set_cons_succ]
    refine wpAnyS_one (i := 12) rfl (by kernel_rfl) (by rfl) (fun K hK => ?_)
    have c0 := hR9.c0
    have hRa := hR9.set0 (.slice A8 x1.length c8)
    have hRb := hRa.set1 (.slice A9 x2.length c9)
    have c1 := hRa.c1
    go_simp
    have hb := (hS.cell (D := w.heap.size + 1) (j := 0) (by omega) (by have := zR.out; omega) (by have := zR.out; omega) (by have := zR.out; have := zH.out; omega) (.slice A8 x1.length c8)).cell (D := w.heap.size + 1) (j := 1) (by omega) (by have := zR.out; omega) (by have := zR.out; omega) (by have := zR.out; have := zH.out; omega) (.slice A9 x2.length c9)
    have sA := (s8.off c0.1 (fun m h => by cases h) (.slice A8 x1.length c8)).off c1.1 (fun m h => by cases h) (.slice A9 x2.length c9)
    have sB := (t8.off c0.1 (fun m h => by cases h) (.slice A8 x1.length c8)).off c1.1 (fun m h => by cases h) (.slice A9 x2.length c9)
    have hret := hRb.load rfl rfl
    have bz := hb.below
    refine hK.out _ _ hb ?_
    replace hS := hb
    clear hK K hb
    try simp only [Act.put, List.setIfInBounds_toArray, List.set_cons_zero, List.set_cons_succ]
    refine wpAnyS_take (i := 13) (v := ?_) hS (some 11) rfl rfl (by kernel_rfl) (by kernel_rfl) (by kernel_rfl) (fun _ _ _ h => h) ?_ ?_
    rotate_left 1
    · (refine Or.inl ⟨by rfl, ?_⟩; intro w' hw'; have hq1 := hw'.fb.cell.1; have hq2 := hw'.fits.cell.1; (try go_simp); (try rfl); done)
    try simp only [Act.put, List.setIfInBounds_toArray, List.set_cons_zero, List.set_cons_succ]
    refine wpAnyS_done (by kernel_rfl) ?_ _
    have hans : Hid (includedL k l n b ps = fo) := by
      unfold Hid
      rw [hinc.out, ← hfo.out]
      by_cases hq : way.new = rt <;> simp [hq]
    clear hinc hfo
    go_wp2_with fail
    refine ret_cell2 (v := .agg #[.slice A8 x1.length c8, .slice A9 x2.length c9]) Try.results21 rfl hret rfl ?_
    rw [hans.out]
    exact ⟨_, rfl, ⟨_, _, rfl, hx1.out.symm ▸ sA, hx2.out.symm ▸ sB⟩, bz⟩
  | false =>
    rw [hfit] at hS hinc
    clear hfit
    refine wp_region_S (fun w' => Fnd w (W1.heap.size + 1) W1.heap.size (W1.heap.size + 1 + 1) w5.heap.size false way.new w') (by kernel_rfl) ?_
    refine wpAnyS_take (i := 0) (v := ?_) hS (some 46) rfl rfl (by kernel_rfl) (by kernel_rfl) (by kernel_rfl) (fun _ _ _ h => h) ?_ ?_
    rotate_left 1
    · (refine Or.inl ⟨by rfl, ?_⟩; intro w' hw'; have hq1 := hw'.fb.cell.1; have hq2 := hw'.fits.cell.1; (try go_simp); (try rfl); done)
    try simp only [Act.put, List.setIfInBounds_toArray, List.set_cons_zero, List.set_cons_succ]
    refine wpAnyS_take (i := 1) (v := ?_) hS (some 47) rfl rfl (by kernel_rfl) (by kernel_rfl) (by kernel_rfl) (fun _ _ _ h => h) ?_ ?_
    rotate_left 1
    · (refine Or.inl ⟨by rfl, ?_⟩; intro w' hw'; have hq1 := hw'.fb.cell.1; have hq2 := hw'.fits.cell.1; (try go_simp); (try rfl); done)
    try simp only [Act.put, List.setIfInBounds_toArray, List.set_cons_zero, List.set_cons_succ]
    refine wpAnyS_take (i := 2) (v := ?_) hS (some 48) rfl rfl (by kernel_rfl) (by kernel_rfl) (by kernel_rfl) (fun _ _ _ h => h) ?_ ?_
    rotate_left 1
    · (refine Or.inl ⟨by rfl, ?_⟩; intro w' hw'; have hq1 := hw'.fb.cell.1; have hq2 := hw'.fits.cell.1; (try go_simp); (try rfl); done)
    try simp only [Act.put, List.setIfInBounds_toArray, List.set_cons_zero, List.set_cons_succ]
    refine wpAnyS_take (i := 3) (v := undef) hS (some 49) rfl rfl (by kernel_rfl) (by kernel_rfl) (by kernel_rfl) (fun _ _ _ h => h) (Or.inr ⟨by rfl, rfl⟩) ?_
    try simp only [Act.put, List.setIfInBounds_toArray, List.set_cons_zero, List.set_cons_succ]
    refine wpAnyS_take (i := 4) (v := undef) hS (some 50) rfl rfl (by kernel_rfl) (by kernel_rfl) (by kernel_rfl) (fun _ _ _ h => h) (Or.inr ⟨by rfl, rfl⟩) ?_
    try simp only [Act.put, List.setIfInBounds_toArray, List.set_cons_zero, List.set_cons_succ]
    refine wpAnyS_take (i := 5) (v := undef) hS (some 51) rfl rfl (by kernel_rfl) (by kernel_rfl) (by kernel_rfl) (fun _ _ _ h => h) (Or.inr ⟨by rfl, rfl⟩) ?_
    try simp only [Act.put, List.setIfInBounds_toArray, List.set_cons_zero, List.set_cons_succ]
    refine wpAnyS_take (i := 6) (v := undef) hS (some 52) rfl rfl (by kernel_rfl) (by kernel_rfl) (by kernel_rfl) (fun _ _ _ h => h) (Or.inr ⟨by rfl, rfl⟩) ?_
    try simp only [Act.put, List.setIfInBounds_toArray, List.set_cons_zero, List.set_cons_succ]
    refine wpAnyS_take (i := 7) (v := undef) hS (some 53) rfl rfl (by kernel_rfl) (by kernel_rfl) (by kernel_rfl) (fun _ _ _ h => h) (Or.inr ⟨by rfl, rfl⟩) ?_
    try simp only [Act.put, List.setIfInBounds_toArray, List.set_cons_zero, List.set_cons_succ]
    refine wpAnyS_take (i := 8) (v := ?_) hS (some 54) rfl rfl (by kernel_rfl) (by kernel_rfl) (by kernel_rfl) (fun _ _ _ h => h) ?_ ?_
    rotate_left 1
    · (refine Or.inl ⟨by rfl, ?_⟩; intro w' hw'; have hq1 := hw'.fb.cell.1; have hq2 := hw'.fits.cell.1; (try go_simp); (try rfl); done)
    try simp only [Act.put, List.setIfInBounds_toArray, List.set_cons_zero, List.set_cons_succ]
    refine wpAnyS_one (i := 9) rfl (by kernel_rfl) (by rfl) (fun K hK => ?_)
    go_simp
    (with_reducible refine (found_any W1.heap.size g way.p false _ f7).mono ?_); rintro e w8 ⟨v8, rfl, hp8, b8⟩
    generalize hfo : (if false = true then way.p else none) = fo at *
    replace hfo : Hid _ := hfo
    have hb := hS.ext b8
    have hR9 := hR7.below b8
    obtain ⟨va, vb', rfl, s8, t8⟩ := hp8
    obtain ⟨A8, c8, rfl, _⟩ := id s8
    obtain ⟨A9, c9, rfl, _⟩ := id t8
    generalize hx1 : (fo.getD ([], [])).1 = x1 at *
    generalize hx2 : (fo.getD ([], [])).2 = x2 at *
    replace hx1 : Hid _ := hx1
    replace hx2 : Hid _ := hx2
    refine hK.out _ _ hb ?_
    replace hS := hb
    clear hK K hb
    try simp only [Act.put, List.setIfInBounds_toArray, List.set_cons_zero, List.set_cons_succ]
    refine wpAnyS_take (i := 10) (v := ?_) hS (some 56) rfl rfl (by kernel_rfl) (by kernel_rfl) (by kernel_rfl) (fun _ _ _ h => h) ?_ ?_
    rotate_left 1
    · (refine Or.inl ⟨by rfl, ?_⟩; intro w' hw'; have hq1 := hw'.fb.cell.1; have hq2 := hw'.fits.cell.1; (try go_simp); (try rfl); done)
    try simp only [Act.put, List.setIfInBounds_toArray, List.set_cons_zero, List.set_cons_succ]
    refine wpAnyS_take (i := 11) (v := ?_) hS (some 57) rfl rfl (by kernel_rfl) (by kernel_rfl) (by kernel_rfl) (fun _ _ _ h => h) ?_ ?_
    rotate_left 1
    · (refine Or.inl ⟨by rfl, ?_⟩; intro w' hw'; have hq1 := hw'.fb.cell.1; have hq2 := hw'.fits.cell.1; (try go_simp); (try rfl); done)
    try simp only [Act.put, List.setIfInBounds_toArray, List.set_cons_zero, List.set_cons_succ]
    refine wpAnyS_one (i := 12) rfl (by kernel_rfl) (by rfl) (fun K hK => ?_)
    have c0 := hR9.c0
    have hRa := hR9.set0 (.slice A8 x1.length c8)
    have hRb := hRa.set1 (.slice A9 x2.length c9)
    have c1 := hRa.c1
    go_simp
    have hb := (hS.cell (D := w.heap.size + 1) (j := 0) (by omega) (by have := zR.out; omega) (by have := zR.out; omega) (by have := zR.out; have := zH.out; omega) (.slice A8 x1.length c8)).cell (D := w.heap.size + 1) (j := 1) (by omega) (by have := zR.out; omega) (by have := zR.out; omega) (by have := zR.out; have := zH.out; omega) (.slice A9 x2.length c9)
    have sA := (s8.off c0.1 (fun m h => by cases h) (.slice A8 x1.length c8)).off c1.1 (fun m h => by cases h) (.slice A9 x2.length c9)
    have sB := (t8.off c0.1 (fun m h => by cases h) (.slice A8 x1.length c8)).off c1.1 (fun m h => by cases h) (.slice A9 x2.length c9)
    have hret := hRb.load rfl rfl
    have bz := hb.below
    refine hK.out _ _ hb ?_
    replace hS := hb
    clear hK K hb
    try simp only [Act.put, List.setIfInBounds_toArray, List.set_cons_zero, List.set_cons_succ]
    refine wpAnyS_take (i := 13) (v := ?_) hS (some 11) rfl rfl (by kernel_rfl) (by kernel_rfl) (by kernel_rfl) (fun _ _ _ h => h) ?_ ?_
    rotate_left 1
    · (refine Or.inl ⟨by rfl, ?_⟩; intro w' hw'; have hq1 := hw'.fb.cell.1; have hq2 := hw'.fits.cell.1; (try go_simp); (try rfl); done)
    try simp only [Act.put, List.setIfInBounds_toArray, List.set_cons_zero, List.set_cons_succ]
    refine wpAnyS_done (by kernel_rfl) ?_ _
    have hans : Hid (includedL k l n b ps = fo) := by
      unfold Hid
      rw [hinc.out, ← hfo.out]
      simp
    clear hinc hfo
    go_wp2_with fail
    refine ret_cell2 (v := .agg #[.slice A8 x1.length c8, .slice A9 x2.length c9]) Try.results21 rfl hret rfl ?_
    rw [hans.out]
    exact ⟨_, rfl, ⟨_, _, rfl, hx1.out.symm ▸ sA, hx2.out.symm ▸ sB⟩, bz⟩
/-- What Included does. -/
theorem included_any (g k : Nat) (hk : k ≤ 256) (vl : Value) (l : List (List UInt8)) (i : Int) (vb : Value) (b : List UInt8) (vp : Value) (ps : List (List UInt8)) (w : World) (hi1 : -9223372036854775808 ≤ i) (hi2 : i ≤ 9223372036854775807)
    (hl : SlX w vl l) (hb : SlB w vb b) (hp : SlD w vp ps) (hg : HvAt w g k) (hll : l.length ≤ 1048576) (hz : ∀ z ∈ l, z.length ≤ 1048576) (hbl : b.length ≤ 1048576) :
    Calls Try.prog 21 #[hv g, vl, .int .i64 i, vb, vp] w fun e w' => ∃ v, e = .returned (.tuple #[v, .bool (includedL k l i b ps).isSome]) ∧ PairAt w' v (includedL k l i b ps) ∧ Below w.heap.size w w' := by
  by_cases hn : i < 0 ∨ (l.length : Int) ≤ i ∨ b = l.getD i.toNat []
  · have e : includedL k l i b ps = none := by unfold includedL; rw [if_pos hn]
    rw [e]
    exact included_no g k vl l i vb b vp w hi1 hi2 hl hb hn
  · obtain ⟨n, rfl⟩ : ∃ n : Nat, i = n := ⟨i.toNat, by omega⟩
    have h3 : n < l.length := by omega
    have h4 : b ≠ l.getD n [] := fun h => hn (Or.inr (Or.inr (by rw [Int.toNat_natCast]; exact h)))
    exact included_go g k hk vl l n vb b vp ps w hl hb hp hg h3 h4 hll hz hbl
end Go.Proofs.Ytnpbapefjbfndaa
