/- Lists of the reference: its recursion; all of it (walks). -/
import Derived.Test.YtnpbapefjbfndaaZExrI
import Derived.Test.YtnpbapefjbfndaaZXp
set_option linter.unusedVariables false
set_option linter.unusedSimpArgs false
set_option maxRecDepth 10000
namespace Go.Proofs.Ytnpbapefjbfndaa
open Go.RowKit
attribute [local go_sem high] dg_cells guard_dg rs_l rs_lh rs_lhm rs_h rs_hm rs_all

set_option maxHeartbeats 8000000 in
theorem rlists_left (k : Nat) (hk : k ≤ 256) (va vb : Value) (a b : List (List UInt8)) (w : World) (la : a.length ≤ 1048576) (lb : b.length ≤ 1048576) (za : ∀ z ∈ a, z.length ≤ 1048576) (zb : ∀ z ∈ b, z.length ≤ 1048576)
    (ha : SlX w va a) (hb : SlX w vb b) (hab : a ≠ b) (hrr : rootX k a = rootX k b) (hxy : textL k a = textL k b) (ka2 : 2 ≤ a.length) (kb2 : 2 ≤ b.length) (ja jb : Nat) (hja : kOf a.length = ja) (hjb : kOf b.length = jb) (hsame : a.take ja ≠ b.take jb) (o : Option (List UInt8 × List UInt8))
    (hrec : ∀ u v w', Ext w w' → SlX w' u (a.take ja) → SlX w' v (b.take jb) → Calls Try.prog 13 #[.int .i64 k, u, v] w' fun e w'' => ∃ v, e = .returned (.tuple #[v, .bool o.isSome]) ∧ PairAt w'' v o ∧ Below w'.heap.size w' w'') :
    Calls Try.prog 13 #[.int .i64 k, va, vb] w fun e w' => ∃ v, e = .returned (.tuple #[v, .bool o.isSome]) ∧ PairAt w' v o ∧ Below w.heap.size w w' := by
  have e0 := ext_alloc w (.cells #[.slice none 0 0, .slice none 0 0] 33)
  have hs := rsame_any va vb a b _ (ha.below e0) (hb.below e0)
  rw [decide_eq_false hab] at hs
  have ka := fun w' (h : Ext w w') => rroot_any k hk va a w' la za (ha.below h)
  have kb := fun w' (h : Ext w w') => rroot_any k hk vb b w' lb zb (hb.below h)
  have da := rootX_length k a
  have qn := fun w' => arr_dg.neqSelf (rootX k a) da w'
  rw [← hrr] at kb
  have ta := fun w' (h : Ext w w') => rtext_any k hk 1048576 va a w' la (Nat.le_refl _) za (ha.below h)
  have tb := fun w' (h : Ext w w') => rtext_any k hk 1048576 vb b w' lb (Nat.le_refl _) zb (hb.below h)
  have hxb : (textL k b == textL k b) = true := beq_iff_eq.2 rfl
  have hR0 : PR 33 (w.alloc (.cells #[.slice none 0 0, .slice none 0 0] 33)) w.heap.size (.slice none 0 0) (.slice none 0 0) := heap_alloc_new _ _
  rw [hxy] at ta
  have hkla := kOf_lt (n := a.length) ka2 (by omega)
  have hklb := kOf_lt (n := b.length) kb2 (by omega)
  have ha1 := fun w' => rhalf_any a.length w' ka2 la
  have hb1 := fun w' => rhalf_any b.length w' kb2 lb
  rw [hja] at hkla ha1
  rw [hjb] at hklb hb1
  obtain ⟨A1, c1', rfl, hcA, _⟩ := ha.len
  obtain ⟨A2, c2', rfl, hcB, _⟩ := hb.len
  have xLA := ha.slice 0 ja (by omega) (by omega)
  have xLB := hb.slice 0 jb (by omega) (by omega)
  have xRA := ha.slice ja a.length (by omega) (Nat.le_refl _)
  have xRB := hb.slice jb b.length (by omega) (Nat.le_refl _)
  simp only [List.drop_zero, Nat.sub_zero, slA_zero] at xLA xLB
  rw [List.take_of_length_le (by simp)] at xRA xRB
  have hsm := fun w' (h : Ext w w') => rsame_any _ _ _ _ w' (xLA.below h) (xLB.below h)
  rw [decide_eq_false hsame] at hsm
  have hre := fun w' (h : Below w.heap.size w w') => hrec _ _ w' h (xLA.below h) (xLB.below h)
  have i1 : (ja : Int) ≤ c1' := by omega
  have i2 : (ja : Int) ≤ a.length := by omega
  have i3 : (jb : Int) ≤ c2' := by omega
  have i4 : (jb : Int) ≤ b.length := by omega
  replace hja : Hid _ := hja
  replace hjb : Hid _ := hjb
  clear ha hb hab hrr hxy hkla hklb xLA xLB xRA xRB hsame hrec
  generalize rootX k a = xa at *
  generalize textL k b = y at *
  go_enter Try.func13, Try.ntmps13
  go_wp2_with fail
  refine hs.mono ?_
  rintro e w2 ⟨rfl, b2⟩
  have bw := Ext.trans e0 b2
  have hR := hR0.below b2
  clear hR0 b2 e0
  go_wp2_with fail
  (with_reducible refine (ka _ bw).mono ?_); rintro e w3 ⟨rfl, b3⟩
  have bw3 := Ext.trans bw b3
  have hR3 := hR.below b3
  clear hR b3 bw
  go_wp2_with fail
  (with_reducible refine (kb _ bw3).mono ?_); rintro e w4 ⟨rfl, b4⟩
  have bw4 := Ext.trans bw3 b4
  have hR4 := hR3.below b4
  clear hR3 b4 bw3
  go_wp2_with fail
  (with_reducible refine (ta _ bw4).mono ?_); rintro e w5 ⟨v5, rfl, s5, b5⟩
  have bw5 := Ext.trans bw4 b5
  have hR5 := hR4.below b5
  clear hR4 b5 bw4
  go_wp2_with fail
  (with_reducible refine (tb _ bw5).mono ?_); rintro e w6 ⟨v6, rfl, s6, b6⟩
  have bw6 := Ext.trans bw5 b6
  have s56 := s5.below b6
  have hR6 := hR5.below b6
  clear hR5 b6 bw5 ka kb ta tb hs s5
  obtain ⟨A5, c5, rfl, _⟩ := id s56
  obtain ⟨A6, c6, rfl, _⟩ := id s6
  have e7 := ext_alloc w6 (.cells #[.slice A5 y.length c5, .slice A6 y.length c6] 33)
  have p0 := @pair_0 w6 _ 33 (.slice A5 y.length c5) (.slice A6 y.length c6) (Ext.refl _)
  have p1 := @pair_1 w6 _ 33 (.slice A5 y.length c5) (.slice A6 y.length c6) (Ext.refl _)
  have s5' := s56.below e7
  have s6' := s6.below e7
  have k1 := conv_sl (P := Try.prog) (dst := 9) Try.underlying23 Try.underlying5 Try.underlying9 s5'
  have k2 := conv_sl (P := Try.prog) (dst := 9) Try.underlying23 Try.underlying5 Try.underlying9 s6'
  have hR7 := hR6.below e7
  have bw7 := Ext.trans bw6 e7
  have c0 := hR7.c0
  clear s56 s6 s5' s6' hR6 bw6 e7
  clear c0
  have b7' : Below w.heap.size w _ := bw7
  go_wp2_with fail
  refine (ha1 _).mono ?_; rintro e w' ⟨rfl, rfl⟩
  go_wp2_with fail
  refine (hb1 _).mono ?_; rintro e w' ⟨rfl, rfl⟩
  clear p0 p1 k1 k2 bw7 ha1 hb1
  go_wp2_with fail
  generalize World.alloc w6 _ = W at *
  have hcur : Below w.heap.size w W := b7'
  have e0 := Ext.refl W
  refine wp_region_E (by kernel_rfl) ?_
  replace hcur := below_via hcur (ext_drew _)
  replace e0 := Ext.trans e0 (ext_drew _)
  refine wpAnyE_take (i := 0) (v := ?_) (some 45) rfl rfl (by kernel_rfl) (by kernel_rfl) (by kernel_rfl) (fun _ _ _ h => h) ?_ ?_
  rotate_left 1
  · (refine Or.inl ⟨by rfl, ?_⟩; intro w' hw'; have hq := below_via hcur hw'; have hq_e0 := Ext.trans e0 hw'; (try go_simp); (try rfl); done)
  try simp only [Act.put, List.setIfInBounds_toArray, List.set_cons_zero, List.set_cons_succ]
  refine wpAnyE_take (i := 1) (v := ?_) (some 46) rfl rfl (by kernel_rfl) (by kernel_rfl) (by kernel_rfl) (fun _ _ _ h => h) ?_ ?_
  rotate_left 1
  · (refine Or.inl ⟨by rfl, ?_⟩; intro w' hw'; have hq := below_via hcur hw'; have hq_e0 := Ext.trans e0 hw'; (try go_simp); (try rfl); done)
  try simp only [Act.put, List.setIfInBounds_toArray, List.set_cons_zero, List.set_cons_succ]
  refine wpAnyE_take (i := 2) (v := ?_) (some 47) rfl rfl (by kernel_rfl) (by kernel_rfl) (by kernel_rfl) (fun _ _ _ h => h) ?_ ?_
  rotate_left 1
  · (refine Or.inl ⟨by rfl, ?_⟩; intro w' hw'; have hq := below_via hcur hw'; have hq_e0 := Ext.trans e0 hw'; (try go_simp); (try rfl); done)
  try simp only [Act.put, List.setIfInBounds_toArray, List.set_cons_zero, List.set_cons_succ]
  refine wpAnyE_take (i := 3) (v := ?_) (some 48) rfl rfl (by kernel_rfl) (by kernel_rfl) (by kernel_rfl) (fun _ _ _ h => h) ?_ ?_
  rotate_left 1
  · (refine Or.inl ⟨by rfl, ?_⟩; intro w' hw'; have hq := below_via hcur hw'; have hq_e0 := Ext.trans e0 hw'; (try go_simp); (try rfl); done)
  try simp only [Act.put, List.setIfInBounds_toArray, List.set_cons_zero, List.set_cons_succ]
  refine wpAnyE_take (i := 4) (v := ?_) (some 49) rfl rfl (by kernel_rfl) (by kernel_rfl) (by kernel_rfl) (fun _ _ _ h => h) ?_ ?_
  rotate_left 1
  · (refine Or.inl ⟨by rfl, ?_⟩; intro w' hw'; have hq := below_via hcur hw'; have hq_e0 := Ext.trans e0 hw'; (try go_simp); (try rfl); done)
  try simp only [Act.put, List.setIfInBounds_toArray, List.set_cons_zero, List.set_cons_succ]
  refine wpAnyE_take (i := 5) (v := ?_) (some 50) rfl rfl (by kernel_rfl) (by kernel_rfl) (by kernel_rfl) (fun _ _ _ h => h) ?_ ?_
  rotate_left 1
  · (refine Or.inl ⟨by rfl, ?_⟩; intro w' hw'; have hq := below_via hcur hw'; have hq_e0 := Ext.trans e0 hw'; (try go_simp); (try rfl); done)
  try simp only [Act.put, List.setIfInBounds_toArray, List.set_cons_zero, List.set_cons_succ]
  refine wpAnyE_one (i := 6) rfl (by kernel_rfl) (by rfl) (fun K hK => ?_)
  go_simp
  have hs2 := hsm _ hcur
  (with_reducible refine hs2.mono ?_); rintro e w8 ⟨rfl, hb⟩
  clear hs2
  refine hK.out _ _ hb ?_
  replace hcur := below_via hcur hb; clear hK K
  replace e0 := Ext.trans e0 hb
  try simp only [Act.put, List.setIfInBounds_toArray, List.set_cons_zero, List.set_cons_succ]
  refine wpAnyE_take (i := 7) (v := ?_) (some 52) rfl rfl (by kernel_rfl) (by kernel_rfl) (by kernel_rfl) (fun _ _ _ h => h) ?_ ?_
  rotate_left 1
  · (refine Or.inl ⟨by rfl, ?_⟩; intro w' hw'; have hq := below_via hcur hw'; have hq_e0 := Ext.trans e0 hw'; (try go_simp); (try rfl); done)
  try simp only [Act.put, List.setIfInBounds_toArray, List.set_cons_zero, List.set_cons_succ]
  refine wpAnyE_done (by kernel_rfl) ?_ _
  have hR8 := hR7.below e0
  clear e0 hR7 hsm b7'
  go_wp2_with fail
  have hS : Below w.heap.size w w8.drew := hcur.drew
  have hR9 := hR8.below (ext_drew _)
  refine wp_region_S (fun w' => Below w.heap.size w w') (by kernel_rfl) ?_
  refine wpAnyS_take (i := 0) (v := ?_) hS (some 53) rfl rfl (by kernel_rfl) (by kernel_rfl) (by kernel_rfl) (fun _ _ _ h => h) ?_ ?_
  rotate_left 1
  · (refine Or.inl ⟨by rfl, ?_⟩; intro w' hw'; (try go_simp); (try rfl); done)
  try simp only [Act.put, List.setIfInBounds_toArray, List.set_cons_zero, List.set_cons_succ]
  refine wpAnyS_take (i := 1) (v := ?_) hS (some 54) rfl rfl (by kernel_rfl) (by kernel_rfl) (by kernel_rfl) (fun _ _ _ h => h) ?_ ?_
  rotate_left 1
  · (refine Or.inl ⟨by rfl, ?_⟩; intro w' hw'; (try go_simp); (try rfl); done)
  try simp only [Act.put, List.setIfInBounds_toArray, List.set_cons_zero, List.set_cons_succ]
  refine wpAnyS_take (i := 2) (v := ?_) hS (some 55) rfl rfl (by kernel_rfl) (by kernel_rfl) (by kernel_rfl) (fun _ _ _ h => h) ?_ ?_
  rotate_left 1
  · (refine Or.inl ⟨by rfl, ?_⟩; intro w' hw'; (try go_simp); (try rfl); done)
  try simp only [Act.put, List.setIfInBounds_toArray, List.set_cons_zero, List.set_cons_succ]
  refine wpAnyS_take (i := 3) (v := ?_) hS (some 56) rfl rfl (by kernel_rfl) (by kernel_rfl) (by kernel_rfl) (fun _ _ _ h => h) ?_ ?_
  rotate_left 1
  · (refine Or.inl ⟨by rfl, ?_⟩; intro w' hw'; (try go_simp); (try rfl); done)
  try simp only [Act.put, List.setIfInBounds_toArray, List.set_cons_zero, List.set_cons_succ]
  refine wpAnyS_take (i := 4) (v := ?_) hS (some 57) rfl rfl (by kernel_rfl) (by kernel_rfl) (by kernel_rfl) (fun _ _ _ h => h) ?_ ?_
  rotate_left 1
  · (refine Or.inl ⟨by rfl, ?_⟩; intro w' hw'; (try go_simp); (try rfl); done)
  try simp only [Act.put, List.setIfInBounds_toArray, List.set_cons_zero, List.set_cons_succ]
  refine wpAnyS_take (i := 5) (v := ?_) hS (some 58) rfl rfl (by kernel_rfl) (by kernel_rfl) (by kernel_rfl) (fun _ _ _ h => h) ?_ ?_
  rotate_left 1
  · (refine Or.inl ⟨by rfl, ?_⟩; intro w' hw'; (try go_simp); (try rfl); done)
  try simp only [Act.put, List.setIfInBounds_toArray, List.set_cons_zero, List.set_cons_succ]
  refine wpAnyS_take (i := 6) (v := ?_) hS (some 59) rfl rfl (by kernel_rfl) (by kernel_rfl) (by kernel_rfl) (fun _ _ _ h => h) ?_ ?_
  rotate_left 1
  · (refine Or.inl ⟨by rfl, ?_⟩; intro w' hw'; (try go_simp); (try rfl); done)
  try simp only [Act.put, List.setIfInBounds_toArray, List.set_cons_zero, List.set_cons_succ]
  refine wpAnyS_one (i := 7) rfl (by kernel_rfl) (by rfl) (fun K hK => ?_)
  go_simp
  have hr2 := hre _ hS
  (with_reducible refine hr2.mono ?_); rintro e w9 ⟨v9, rfl, hp9, b9⟩
  clear hr2
  have hRa := hR9.below b9
  have hb := Below.trans hS (b9.mono hS.size)
  obtain ⟨va, vb', rfl, s8, t8⟩ := hp9
  obtain ⟨A8, c8, rfl, _⟩ := id s8
  obtain ⟨A9, c9, rfl, _⟩ := id t8
  generalize hx1 : (o.getD ([], [])).1 = x1 at *
  generalize hx2 : (o.getD ([], [])).2 = x2 at *
  replace hx1 : Hid _ := hx1
  replace hx2 : Hid _ := hx2
  refine hK.out _ _ hb ?_
  replace hS := hb
  clear hK K hb
  try simp only [Act.put, List.setIfInBounds_toArray, List.set_cons_zero, List.set_cons_succ]
  refine wpAnyS_take (i := 8) (v := ?_) hS (some 61) rfl rfl (by kernel_rfl) (by kernel_rfl) (by kernel_rfl) (fun _ _ _ h => h) ?_ ?_
  rotate_left 1
  · (refine Or.inl ⟨by rfl, ?_⟩; intro w' hw'; (try go_simp); (try rfl); done)
  try simp only [Act.put, List.setIfInBounds_toArray, List.set_cons_zero, List.set_cons_succ]
  refine wpAnyS_take (i := 9) (v := ?_) hS (some 62) rfl rfl (by kernel_rfl) (by kernel_rfl) (by kernel_rfl) (fun _ _ _ h => h) ?_ ?_
  rotate_left 1
  · (refine Or.inl ⟨by rfl, ?_⟩; intro w' hw'; (try go_simp); (try rfl); done)
  try simp only [Act.put, List.setIfInBounds_toArray, List.set_cons_zero, List.set_cons_succ]
  refine wpAnyS_one (i := 10) rfl (by kernel_rfl) (by rfl) (fun K hK => ?_)
  have c0 := hRa.c0
  have hRb := hRa.set0 (.slice A8 x1.length c8)
  have hRc := hRb.set1 (.slice A9 x2.length c9)
  have c1 := hRb.c1
  go_simp
  have hb := below_setCell (k := 1) (below_setCell (k := 0) hS (Nat.le_refl w.heap.size) (.slice A8 x1.length c8)) (Nat.le_refl w.heap.size) (.slice A9 x2.length c9)
  have sA := (s8.off c0.1 (fun m h => by cases h) (.slice A8 x1.length c8)).off c1.1 (fun m h => by cases h) (.slice A9 x2.length c9)
  have sB := (t8.off c0.1 (fun m h => by cases h) (.slice A8 x1.length c8)).off c1.1 (fun m h => by cases h) (.slice A9 x2.length c9)
  have hret := hRc.rload rfl rfl
  have bz := hb
  refine hK.out _ _ hb ?_
  replace hS := hb
  clear hK K hb
  try simp only [Act.put, List.setIfInBounds_toArray, List.set_cons_zero, List.set_cons_succ]
  refine wpAnyS_take (i := 11) (v := ?_) hS (some 7) rfl rfl (by kernel_rfl) (by kernel_rfl) (by kernel_rfl) (fun _ _ _ h => h) ?_ ?_
  rotate_left 1
  · (refine Or.inl ⟨by rfl, ?_⟩; intro w' hw'; (try go_simp); (try rfl); done)
  try simp only [Act.put, List.setIfInBounds_toArray, List.set_cons_zero, List.set_cons_succ]
  refine wpAnyS_done (by kernel_rfl) ?_ _
  go_wp2_with fail
  exact ret_cell2 (v := .agg #[.slice A8 x1.length c8, .slice A9 x2.length c9]) Try.results13 rfl hret rfl ⟨_, rfl, ⟨_, _, rfl, by rw [hx1.out]; exact sA, by rw [hx2.out]; exact sB⟩, bz⟩
set_option maxHeartbeats 8000000 in
theorem rlists_right (k : Nat) (hk : k ≤ 256) (va vb : Value) (a b : List (List UInt8)) (w : World) (la : a.length ≤ 1048576) (lb : b.length ≤ 1048576) (za : ∀ z ∈ a, z.length ≤ 1048576) (zb : ∀ z ∈ b, z.length ≤ 1048576)
    (ha : SlX w va a) (hb : SlX w vb b) (hab : a ≠ b) (hrr : rootX k a = rootX k b) (hxy : textL k a = textL k b) (ka2 : 2 ≤ a.length) (kb2 : 2 ≤ b.length) (ja jb : Nat) (hja : kOf a.length = ja) (hjb : kOf b.length = jb) (hsame : a.take ja = b.take jb) (o : Option (List UInt8 × List UInt8))
    (hrec : ∀ u v w', Ext w w' → SlX w' u (a.drop ja) → SlX w' v (b.drop jb) → Calls Try.prog 13 #[.int .i64 k, u, v] w' fun e w'' => ∃ v, e = .returned (.tuple #[v, .bool o.isSome]) ∧ PairAt w'' v o ∧ Below w'.heap.size w' w'') :
    Calls Try.prog 13 #[.int .i64 k, va, vb] w fun e w' => ∃ v, e = .returned (.tuple #[v, .bool o.isSome]) ∧ PairAt w' v o ∧ Below w.heap.size w w' := by
  have e0 := ext_alloc w (.cells #[.slice none 0 0, .slice none 0 0] 33)
  have hs := rsame_any va vb a b _ (ha.below e0) (hb.below e0)
  rw [decide_eq_false hab] at hs
  have ka := fun w' (h : Ext w w') => rroot_any k hk va a w' la za (ha.below h)
  have kb := fun w' (h : Ext w w') => rroot_any k hk vb b w' lb zb (hb.below h)
  have da := rootX_length k a
  have qn := fun w' => arr_dg.neqSelf (rootX k a) da w'
  rw [← hrr] at kb
  have ta := fun w' (h : Ext w w') => rtext_any k hk 1048576 va a w' la (Nat.le_refl _) za (ha.below h)
  have tb := fun w' (h : Ext w w') => rtext_any k hk 1048576 vb b w' lb (Nat.le_refl _) zb (hb.below h)
  have hxb : (textL k b == textL k b) = true := beq_iff_eq.2 rfl
  have hR0 : PR 33 (w.alloc (.cells #[.slice none 0 0, .slice none 0 0] 33)) w.heap.size (.slice none 0 0) (.slice none 0 0) := heap_alloc_new _ _
  rw [hxy] at ta
  have hkla := kOf_lt (n := a.length) ka2 (by omega)
  have hklb := kOf_lt (n := b.length) kb2 (by omega)
  have ha1 := fun w' => rhalf_any a.length w' ka2 la
  have hb1 := fun w' => rhalf_any b.length w' kb2 lb
  rw [hja] at hkla ha1
  rw [hjb] at hklb hb1
  obtain ⟨A1, c1', rfl, hcA, _⟩ := ha.len
  obtain ⟨A2, c2', rfl, hcB, _⟩ := hb.len
  have xLA := ha.slice 0 ja (by omega) (by omega)
  have xLB := hb.slice 0 jb (by omega) (by omega)
  have xRA := ha.slice ja a.length (by omega) (Nat.le_refl _)
  have xRB := hb.slice jb b.length (by omega) (Nat.le_refl _)
  simp only [List.drop_zero, Nat.sub_zero, slA_zero] at xLA xLB
  rw [List.take_of_length_le (by simp)] at xRA xRB
  have hsm := fun w' (h : Ext w w') => rsame_any _ _ _ _ w' (xLA.below h) (xLB.below h)
  rw [decide_eq_true hsame] at hsm
  have hre := fun w' (h : Below w.heap.size w w') => hrec _ _ w' h (xRA.below h) (xRB.below h)
  have i1 : (ja : Int) ≤ c1' := by omega
  have i2 : (ja : Int) ≤ a.length := by omega
  have i3 : (jb : Int) ≤ c2' := by omega
  have i4 : (jb : Int) ≤ b.length := by omega
  replace hja : Hid _ := hja
  replace hjb : Hid _ := hjb
  clear ha hb hab hrr hxy hkla hklb xLA xLB xRA xRB hsame hrec
  generalize rootX k a = xa at *
  generalize textL k b = y at *
  go_enter Try.func13, Try.ntmps13
  go_wp2_with fail
  refine hs.mono ?_
  rintro e w2 ⟨rfl, b2⟩
  have bw := Ext.trans e0 b2
  have hR := hR0.below b2
  clear hR0 b2 e0
  go_wp2_with fail
  (with_reducible refine (ka _ bw).mono ?_); rintro e w3 ⟨rfl, b3⟩
  have bw3 := Ext.trans bw b3
  have hR3 := hR.below b3
  clear hR b3 bw
  go_wp2_with fail
  (with_reducible refine (kb _ bw3).mono ?_); rintro e w4 ⟨rfl, b4⟩
  have bw4 := Ext.trans bw3 b4
  have hR4 := hR3.below b4
  clear hR3 b4 bw3
  go_wp2_with fail
  (with_reducible refine (ta _ bw4).mono ?_); rintro e w5 ⟨v5, rfl, s5, b5⟩
  have bw5 := Ext.trans bw4 b5
  have hR5 := hR4.below b5
  clear hR4 b5 bw4
  go_wp2_with fail
  (with_reducible refine (tb _ bw5).mono ?_); rintro e w6 ⟨v6, rfl, s6, b6⟩
  have bw6 := Ext.trans bw5 b6
  have s56 := s5.below b6
  have hR6 := hR5.below b6
  clear hR5 b6 bw5 ka kb ta tb hs s5
  obtain ⟨A5, c5, rfl, _⟩ := id s56
  obtain ⟨A6, c6, rfl, _⟩ := id s6
  have e7 := ext_alloc w6 (.cells #[.slice A5 y.length c5, .slice A6 y.length c6] 33)
  have p0 := @pair_0 w6 _ 33 (.slice A5 y.length c5) (.slice A6 y.length c6) (Ext.refl _)
  have p1 := @pair_1 w6 _ 33 (.slice A5 y.length c5) (.slice A6 y.length c6) (Ext.refl _)
  have s5' := s56.below e7
  have s6' := s6.below e7
  have k1 := conv_sl (P := Try.prog) (dst := 9) Try.underlying23 Try.underlying5 Try.underlying9 s5'
  have k2 := conv_sl (P := Try.prog) (dst := 9) Try.underlying23 Try.underlying5 Try.underlying9 s6'
  have hR7 := hR6.below e7
  have bw7 := Ext.trans bw6 e7
  have c0 := hR7.c0
  clear s56 s6 s5' s6' hR6 bw6 e7
  clear c0
  have b7' : Below w.heap.size w _ := bw7
  go_wp2_with fail
  refine (ha1 _).mono ?_; rintro e w' ⟨rfl, rfl⟩
  go_wp2_with fail
  refine (hb1 _).mono ?_; rintro e w' ⟨rfl, rfl⟩
  clear p0 p1 k1 k2 bw7 ha1 hb1
  go_wp2_with fail
  generalize World.alloc w6 _ = W at *
  have hcur : Below w.heap.size w W := b7'
  have e0 := Ext.refl W
  refine wp_region_E (by kernel_rfl) ?_
  replace hcur := below_via hcur (ext_drew _)
  replace e0 := Ext.trans e0 (ext_drew _)
  refine wpAnyE_take (i := 0) (v := ?_) (some 45) rfl rfl (by kernel_rfl) (by kernel_rfl) (by kernel_rfl) (fun _ _ _ h => h) ?_ ?_
  rotate_left 1
  · (refine Or.inl ⟨by rfl, ?_⟩; intro w' hw'; have hq := below_via hcur hw'; have hq_e0 := Ext.trans e0 hw'; (try go_simp); (try rfl); done)
  try simp only [Act.put, List.setIfInBounds_toArray, List.set_cons_zero, List.set_cons_succ]
  refine wpAnyE_take (i := 1) (v := ?_) (some 46) rfl rfl (by kernel_rfl) (by kernel_rfl) (by kernel_rfl) (fun _ _ _ h => h) ?_ ?_
  rotate_left 1
  · (refine Or.inl ⟨by rfl, ?_⟩; intro w' hw'; have hq := below_via hcur hw'; have hq_e0 := Ext.trans e0 hw'; (try go_simp); (try rfl); done)
  try simp only [Act.put, List.setIfInBounds_toArray, List.set_cons_zero, List.set_cons_succ]
  refine wpAnyE_take (i := 2) (v := ?_) (some 47) rfl rfl (by kernel_rfl) (by kernel_rfl) (by kernel_rfl) (fun _ _ _ h => h) ?_ ?_
  rotate_left 1
  · (refine Or.inl ⟨by rfl, ?_⟩; intro w' hw'; have hq := below_via hcur hw'; have hq_e0 := Ext.trans e0 hw'; (try go_simp); (try rfl); done)
  try simp only [Act.put, List.setIfInBounds_toArray, List.set_cons_zero, List.set_cons_succ]
  refine wpAnyE_take (i := 3) (v := ?_) (some 48) rfl rfl (by kernel_rfl) (by kernel_rfl) (by kernel_rfl) (fun _ _ _ h => h) ?_ ?_
  rotate_left 1
  · (refine Or.inl ⟨by rfl, ?_⟩; intro w' hw'; have hq := below_via hcur hw'; have hq_e0 := Ext.trans e0 hw'; (try go_simp); (try rfl); done)
  try simp only [Act.put, List.setIfInBounds_toArray, List.set_cons_zero, List.set_cons_succ]
  refine wpAnyE_take (i := 4) (v := ?_) (some 49) rfl rfl (by kernel_rfl) (by kernel_rfl) (by kernel_rfl) (fun _ _ _ h => h) ?_ ?_
  rotate_left 1
  · (refine Or.inl ⟨by rfl, ?_⟩; intro w' hw'; have hq := below_via hcur hw'; have hq_e0 := Ext.trans e0 hw'; (try go_simp); (try rfl); done)
  try simp only [Act.put, List.setIfInBounds_toArray, List.set_cons_zero, List.set_cons_succ]
  refine wpAnyE_take (i := 5) (v := ?_) (some 50) rfl rfl (by kernel_rfl) (by kernel_rfl) (by kernel_rfl) (fun _ _ _ h => h) ?_ ?_
  rotate_left 1
  · (refine Or.inl ⟨by rfl, ?_⟩; intro w' hw'; have hq := below_via hcur hw'; have hq_e0 := Ext.trans e0 hw'; (try go_simp); (try rfl); done)
  try simp only [Act.put, List.setIfInBounds_toArray, List.set_cons_zero, List.set_cons_succ]
  refine wpAnyE_one (i := 6) rfl (by kernel_rfl) (by rfl) (fun K hK => ?_)
  go_simp
  have hs2 := hsm _ hcur
  (with_reducible refine hs2.mono ?_); rintro e w8 ⟨rfl, hb⟩
  clear hs2
  refine hK.out _ _ hb ?_
  replace hcur := below_via hcur hb; clear hK K
  replace e0 := Ext.trans e0 hb
  try simp only [Act.put, List.setIfInBounds_toArray, List.set_cons_zero, List.set_cons_succ]
  refine wpAnyE_take (i := 7) (v := ?_) (some 52) rfl rfl (by kernel_rfl) (by kernel_rfl) (by kernel_rfl) (fun _ _ _ h => h) ?_ ?_
  rotate_left 1
  · (refine Or.inl ⟨by rfl, ?_⟩; intro w' hw'; have hq := below_via hcur hw'; have hq_e0 := Ext.trans e0 hw'; (try go_simp); (try rfl); done)
  try simp only [Act.put, List.setIfInBounds_toArray, List.set_cons_zero, List.set_cons_succ]
  refine wpAnyE_done (by kernel_rfl) ?_ _
  have hR8 := hR7.below e0
  clear e0 hR7 hsm b7'
  go_wp2_with fail
  have hS : Below w.heap.size w w8.drew := hcur.drew
  have hR9 := hR8.below (ext_drew _)
  refine wp_region_S (fun w' => Below w.heap.size w w') (by kernel_rfl) ?_
  refine wpAnyS_take (i := 0) (v := ?_) hS (some 63) rfl rfl (by kernel_rfl) (by kernel_rfl) (by kernel_rfl) (fun _ _ _ h => h) ?_ ?_
  rotate_left 1
  · (refine Or.inl ⟨by rfl, ?_⟩; intro w' hw'; (try go_simp); (try rfl); done)
  try simp only [Act.put, List.setIfInBounds_toArray, List.set_cons_zero, List.set_cons_succ]
  refine wpAnyS_take (i := 1) (v := ?_) hS (some 64) rfl rfl (by kernel_rfl) (by kernel_rfl) (by kernel_rfl) (fun _ _ _ h => h) ?_ ?_
  rotate_left 1
  · (refine Or.inl ⟨by rfl, ?_⟩; intro w' hw'; (try go_simp); (try rfl); done)
  try simp only [Act.put, List.setIfInBounds_toArray, List.set_cons_zero, List.set_cons_succ]
  refine wpAnyS_take (i := 2) (v := ?_) hS (some 65) rfl rfl (by kernel_rfl) (by kernel_rfl) (by kernel_rfl) (fun _ _ _ h => h) ?_ ?_
  rotate_left 1
  · (refine Or.inl ⟨by rfl, ?_⟩; intro w' hw'; (try go_simp); (try rfl); done)
  try simp only [Act.put, List.setIfInBounds_toArray, List.set_cons_zero, List.set_cons_succ]
  refine wpAnyS_take (i := 3) (v := ?_) hS (some 66) rfl rfl (by kernel_rfl) (by kernel_rfl) (by kernel_rfl) (fun _ _ _ h => h) ?_ ?_
  rotate_left 1
  · (refine Or.inl ⟨by rfl, ?_⟩; intro w' hw'; (try go_simp); (try rfl); done)
  try simp only [Act.put, List.setIfInBounds_toArray, List.set_cons_zero, List.set_cons_succ]
  refine wpAnyS_take (i := 4) (v := ?_) hS (some 67) rfl rfl (by kernel_rfl) (by kernel_rfl) (by kernel_rfl) (fun _ _ _ h => h) ?_ ?_
  rotate_left 1
  · (refine Or.inl ⟨by rfl, ?_⟩; intro w' hw'; (try go_simp); (try rfl); done)
  try simp only [Act.put, List.setIfInBounds_toArray, List.set_cons_zero, List.set_cons_succ]
  refine wpAnyS_take (i := 5) (v := ?_) hS (some 68) rfl rfl (by kernel_rfl) (by kernel_rfl) (by kernel_rfl) (fun _ _ _ h => h) ?_ ?_
  rotate_left 1
  · (refine Or.inl ⟨by rfl, ?_⟩; intro w' hw'; (try go_simp); (try rfl); done)
  try simp only [Act.put, List.setIfInBounds_toArray, List.set_cons_zero, List.set_cons_succ]
  refine wpAnyS_take (i := 6) (v := ?_) hS (some 69) rfl rfl (by kernel_rfl) (by kernel_rfl) (by kernel_rfl) (fun _ _ _ h => h) ?_ ?_
  rotate_left 1
  · (refine Or.inl ⟨by rfl, ?_⟩; intro w' hw'; (try go_simp); (try rfl); done)
  try simp only [Act.put, List.setIfInBounds_toArray, List.set_cons_zero, List.set_cons_succ]
  refine wpAnyS_one (i := 7) rfl (by kernel_rfl) (by rfl) (fun K hK => ?_)
  go_simp
  have hr2 := hre _ hS
  (with_reducible refine hr2.mono ?_); rintro e w9 ⟨v9, rfl, hp9, b9⟩
  clear hr2
  have hRa := hR9.below b9
  have hb := Below.trans hS (b9.mono hS.size)
  obtain ⟨va, vb', rfl, s8, t8⟩ := hp9
  obtain ⟨A8, c8, rfl, _⟩ := id s8
  obtain ⟨A9, c9, rfl, _⟩ := id t8
  generalize hx1 : (o.getD ([], [])).1 = x1 at *
  generalize hx2 : (o.getD ([], [])).2 = x2 at *
  replace hx1 : Hid _ := hx1
  replace hx2 : Hid _ := hx2
  refine hK.out _ _ hb ?_
  replace hS := hb
  clear hK K hb
  try simp only [Act.put, List.setIfInBounds_toArray, List.set_cons_zero, List.set_cons_succ]
  refine wpAnyS_take (i := 8) (v := ?_) hS (some 71) rfl rfl (by kernel_rfl) (by kernel_rfl) (by kernel_rfl) (fun _ _ _ h => h) ?_ ?_
  rotate_left 1
  · (refine Or.inl ⟨by rfl, ?_⟩; intro w' hw'; (try go_simp); (try rfl); done)
  try simp only [Act.put, List.setIfInBounds_toArray, List.set_cons_zero, List.set_cons_succ]
  refine wpAnyS_take (i := 9) (v := ?_) hS (some 72) rfl rfl (by kernel_rfl) (by kernel_rfl) (by kernel_rfl) (fun _ _ _ h => h) ?_ ?_
  rotate_left 1
  · (refine Or.inl ⟨by rfl, ?_⟩; intro w' hw'; (try go_simp); (try rfl); done)
  try simp only [Act.put, List.setIfInBounds_toArray, List.set_cons_zero, List.set_cons_succ]
  refine wpAnyS_one (i := 10) rfl (by kernel_rfl) (by rfl) (fun K hK => ?_)
  have c0 := hRa.c0
  have hRb := hRa.set0 (.slice A8 x1.length c8)
  have hRc := hRb.set1 (.slice A9 x2.length c9)
  have c1 := hRb.c1
  go_simp
  have hb := below_setCell (k := 1) (below_setCell (k := 0) hS (Nat.le_refl w.heap.size) (.slice A8 x1.length c8)) (Nat.le_refl w.heap.size) (.slice A9 x2.length c9)
  have sA := (s8.off c0.1 (fun m h => by cases h) (.slice A8 x1.length c8)).off c1.1 (fun m h => by cases h) (.slice A9 x2.length c9)
  have sB := (t8.off c0.1 (fun m h => by cases h) (.slice A8 x1.length c8)).off c1.1 (fun m h => by cases h) (.slice A9 x2.length c9)
  have hret := hRc.rload rfl rfl
  have bz := hb
  refine hK.out _ _ hb ?_
  replace hS := hb
  clear hK K hb
  try simp only [Act.put, List.setIfInBounds_toArray, List.set_cons_zero, List.set_cons_succ]
  refine wpAnyS_take (i := 11) (v := ?_) hS (some 7) rfl rfl (by kernel_rfl) (by kernel_rfl) (by kernel_rfl) (fun _ _ _ h => h) ?_ ?_
  rotate_left 1
  · (refine Or.inl ⟨by rfl, ?_⟩; intro w' hw'; (try go_simp); (try rfl); done)
  try simp only [Act.put, List.setIfInBounds_toArray, List.set_cons_zero, List.set_cons_succ]
  refine wpAnyS_done (by kernel_rfl) ?_ _
  go_wp2_with fail
  exact ret_cell2 (v := .agg #[.slice A8 x1.length c8, .slice A9 x2.length c9]) Try.results13 rfl hret rfl ⟨_, rfl, ⟨_, _, rfl, by rw [hx1.out]; exact sA, by rw [hx2.out]; exact sB⟩, bz⟩
theorem rlists_any (k : Nat) (hk : k ≤ 256) : ∀ (n : Nat) (va vb : Value) (a b : List (List UInt8)) (w : World), a.length ≤ n → a.length ≤ 1048576 → b.length ≤ 1048576 → (∀ z ∈ a, z.length ≤ 1048576) → (∀ z ∈ b, z.length ≤ 1048576) → SlX w va a → SlX w vb b →
    Calls Try.prog 13 #[.int .i64 k, va, vb] w fun e w' => ∃ v, e = .returned (.tuple #[v, .bool (listsL k a b).isSome]) ∧ PairAt w' v (listsL k a b) ∧ Below w.heap.size w w' := by
  intro n
  induction n with
  | zero =>
    intro va vb a b w hn la lb za zb ha hb
    by_cases hab : a = b
    · rw [listsL_none (Or.inl hab)]; exact rlists_none k hk va vb a b w la lb za zb ha hb hab
    · by_cases hrr : rootX k a = rootX k b
      · have hI : ¬ (a = b ∨ rootX k a ≠ rootX k b) := by simp [hab, hrr]
        by_cases hxy : textL k a = textL k b
        · have := (text_both hab (by omega) (by omega) hxy).1; omega
        · rw [listsL_some hI hxy]; exact rlists_differ k hk va vb a b w la lb za zb ha hb hab hrr hxy
      · rw [listsL_none (Or.inr hrr)]; exact rlists_apart k hk va vb a b w la lb za zb ha hb hab hrr
  | succ n ih =>
    intro va vb a b w hn la lb za zb ha hb
    by_cases hab : a = b
    · rw [listsL_none (Or.inl hab)]; exact rlists_none k hk va vb a b w la lb za zb ha hb hab
    · by_cases hrr : rootX k a = rootX k b
      · have hI : ¬ (a = b ∨ rootX k a ≠ rootX k b) := by simp [hab, hrr]
        by_cases hxy : textL k a = textL k b
        · obtain ⟨ka2, kb2, _, _⟩ := text_both hab (by omega) (by omega) hxy
          have hkla := kOf_lt (n := a.length) ka2 (by omega)
          by_cases hd : a.take (kOf a.length) = b.take (kOf b.length)
          · rw [listsL_right hI hxy (by omega) (by omega) hd]
            exact rlists_right k hk va vb a b w la lb za zb ha hb hab hrr hxy ka2 kb2 _ _ rfl rfl hd _ fun u v w' hx hu hv =>
              ih u v _ _ w' (by rw [List.length_drop]; omega) (by rw [List.length_drop]; omega) (by rw [List.length_drop]; omega) (fun z h => za z (List.mem_of_mem_drop h)) (fun z h => zb z (List.mem_of_mem_drop h)) hu hv
          · rw [listsL_left hI hxy (by omega) (by omega) hd]
            exact rlists_left k hk va vb a b w la lb za zb ha hb hab hrr hxy ka2 kb2 _ _ rfl rfl hd _ fun u v w' hx hu hv =>
              ih u v _ _ w' (by rw [List.length_take]; omega) (by rw [List.length_take]; omega) (by rw [List.length_take]; omega) (fun z h => za z (List.mem_of_mem_take h)) (fun z h => zb z (List.mem_of_mem_take h)) hu hv
        · rw [listsL_some hI hxy]; exact rlists_differ k hk va vb a b w la lb za zb ha hb hab hrr hxy
      · rw [listsL_none (Or.inr hrr)]; exact rlists_apart k hk va vb a b w la lb za zb ha hb hab hrr
/-- What Lists of the program does. -/
theorem lists_any (g k : Nat) (hk : k ≤ 256) (va vb : Value) (a b : List (List UInt8)) (w : World) (la : a.length ≤ 1048576) (lb : b.length ≤ 1048576) (za : ∀ z ∈ a, z.length ≤ 1048576) (zb : ∀ z ∈ b, z.length ≤ 1048576)
    (ha : SlX w va a) (hb : SlX w vb b) (hg : HvAt w g k) :
    Calls Try.prog 12 #[hv g, va, vb] w fun e w' => ∃ v, e = .returned (.tuple #[v, .bool (listsL k a b).isSome]) ∧ PairAt w' v (listsL k a b) ∧ Below w.heap.size w w' := by
  by_cases hab : a = b
  · rw [listsL_none (Or.inl hab)]; exact lists_none g k hk va vb a b w la lb za zb ha hb hg hab
  · by_cases hrr : rootX k a = rootX k b
    · refine (lists_met g k hk va vb a b w la lb za zb ha hb hg hab hrr).mono fun e w' ⟨v, h1, ⟨x, y, h2⟩, h3, h4⟩ => ⟨v, ?_, h3, h4⟩
      rw [h1, h2]; rfl
    · rw [listsL_none (Or.inr hrr)]; exact lists_apart g k hk va vb a b w la lb za zb ha hb hg hab hrr
end Go.Proofs.Ytnpbapefjbfndaa
