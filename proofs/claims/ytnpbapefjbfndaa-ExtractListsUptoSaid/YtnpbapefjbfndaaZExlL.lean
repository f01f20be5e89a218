/- The law ExtractLists, walked. -/
import Derived.Test.YtnpbapefjbfndaaZExlI
set_option linter.unusedVariables false
set_option linter.unusedSimpArgs false
set_option maxRecDepth 10000
namespace Go.Proofs.Ytnpbapefjbfndaa
open Go.RowKit
attribute [local go_sem high] dg_cells guard_dg

set_option maxHeartbeats 8000000 in
theorem law_ExtractLists (bits : Int) (va : Value) (a : List (List UInt8)) (vb : Value) (b : List (List UInt8)) (vx : Value) (x : List UInt8) (vy : Value) (y : List UInt8) (w : World) (hbits : -9223372036854775808 ≤ bits ∧ bits ≤ 9223372036854775807)
    (ha : SlX w va a) (has : (a.map fun z => z.length + 1).sum ≤ 1048576) (hb : SlX w vb b) (hbs : (b.map fun z => z.length + 1).sum ≤ 1048576) (hx : SlB w vx x) (hxl : x.length ≤ 1048576) (hy : SlB w vy y) (hyl : y.length ≤ 1048576) :
    Calls Try.prog 3 #[.int .i64 bits, va, vb, vx, vy] w fun e w' => e = .returned (.bool true) ∧ Below w.heap.size w w' := by
  obtain ⟨q1, q2⟩ := sum_len a
  obtain ⟨q3, q4⟩ := sum_len b
  have la : a.length ≤ 1048576 := by omega
  have lb : b.length ≤ 1048576 := by omega
  have za : ∀ z ∈ a, z.length ≤ 1048576 := fun z h => by have := q2 z h; omega
  have za2 : ∀ z ∈ a, z.length ≤ 1073741824 := fun z h => by have := q2 z h; omega
  have zb : ∀ z ∈ b, z.length ≤ 1048576 := fun z h => by have := q4 z h; omega
  have zb2 : ∀ z ∈ b, z.length ≤ 1073741824 := fun z h => by have := q4 z h; omega
  clear q1 q2 q3 q4 has hbs
  obtain ⟨Ax, cx, rfl, _⟩ := id hx
  obtain ⟨Ay, cy, rfl, _⟩ := id hy
  have hkept := kept_any bits w hbits.1 hbits.2
  go_enter Try.func3, Try.ntmps3
  go_wp2_with fail
  refine hkept.mono ?_; rintro e w1 ⟨⟨k, hk, rfl⟩, rfl⟩
  clear hkept
  go_wp2_with fail
  refine (hash_any k _).mono ?_; rintro e w1 ⟨rfl, hg1, b1⟩
  have x1 : Ext w w1 := b1
  have hown := own_any va a w1 (ha.below x1) la za2
  go_wp2_with fail
  refine hown.mono ?_; rintro e w2 ⟨v2, rfl, ha2, b2⟩
  have x2 := Ext.trans x1 b2
  have hown2 := own_any vb b w2 (hb.below x2) lb zb2
  clear hown
  go_wp2_with fail
  refine hown2.mono ?_; rintro e w3 ⟨v3, rfl, hb3, b3⟩
  have x3 := Ext.trans x2 b3
  have ha3 := ha2.below b3
  have hg3 := (hg1.below b2).below b3
  have hls := lists_any w.heap.size k hk v2 v3 a b w3 la lb za zb ha3 hb3 hg3
  clear hown2 ha2 hg1 b1 b2 x1 x2 b3
  go_wp2_with fail
  refine hls.mono ?_; rintro e w4 ⟨v4, rfl, hp4, b4⟩
  have x4 := Ext.trans x3 b4
  have hrl := fun w' (h : Ext w w') => rlists_any k hk a.length va vb a b w' (Nat.le_refl _) la lb za zb (ha.below h) (hb.below h)
  generalize listsL k a b = o at *
  obtain ⟨A, c, A', c', rfl, _, _⟩ := pair_open hp4
  generalize (o.getD ([], [])).1.length = n1 at *
  generalize (o.getD ([], [])).2.length = n2 at *
  have e5 := ext_alloc w4 (.cells #[.slice A n1 c, .slice A' n2 c'] 30)
  have p5 : PR 30 (w4.alloc (.cells #[.slice A n1 c, .slice A' n2 c'] 30)) w4.heap.size _ _ := heap_alloc_new _ _
  have x5 := Ext.trans x4 e5
  have b45 := Ext.trans b4 e5
  have hp5 := hp4.below e5
  have hr5 := hrl _ x5
  clear hls hrl x4 hp4 e5
  go_wp2_with fail
  refine hr5.mono ?_; rintro e w6 ⟨v6, rfl, hp6, b6⟩
  have x6 := Ext.trans x5 b6
  obtain ⟨D, d, D', d', rfl, _, _⟩ := pair_open hp6
  generalize (o.getD ([], [])).1.length = m1 at *
  generalize (o.getD ([], [])).2.length = m2 at *
  have e7 := ext_alloc w6 (.cells #[.slice D m1 d, .slice D' m2 d'] 33)
  have p7 : PR 33 (w6.alloc (.cells #[.slice D m1 d, .slice D' m2 d'] 33)) w6.heap.size _ _ := heap_alloc_new _ _
  have e8 := ext_alloc (w6.alloc (.cells #[.slice D m1 d, .slice D' m2 d'] 33)) (.cells #[.slice Ax x.length cx, .slice Ay y.length cy] 33)
  have p8 : PR 33 ((w6.alloc (.cells #[.slice D m1 d, .slice D' m2 d'] 33)).alloc (.cells #[.slice Ax x.length cx, .slice Ay y.length cy] 33)) (w6.heap.size + 1) (.slice Ax x.length cx) (.slice Ay y.length cy) := by
    have := heap_alloc_new (w6.alloc (.cells #[.slice D m1 d, .slice D' m2 d'] 33)) (.cells #[.slice Ax x.length cx, .slice Ay y.length cy] 33)
    rwa [size_alloc] at this
  have e78 := Ext.trans e7 e8
  have x8 := Ext.trans x6 e78
  have q8 := p5.below (Ext.trans b6 e78)
  have p78 := p7.below e8
  have hpa := hp5.below (Ext.trans b6 e78)
  have hpb := hp6.below e78
  have b38 := Ext.trans b45 (Ext.trans b6 e78)
  have ha8 := ha3.below b38
  have hb8 := hb3.below b38
  have hg8 := hg3.below b38
  generalize o.isSome = os at *
  clear hr5 e7 e8 e78 p5 hp5 hp6 b6 x5 x6 b45 b4 ha3 hb3 hg3 p7 b38
  go_wp2_with fail
  generalize World.alloc (World.alloc w6 _) _ = W at *
  have l1 := fun w' (h : Ext W w') => (q8.below h).c0.1
  have l2 := fun w' (h : Ext W w') => (q8.below h).c1.1
  have l3 := fun w' (h : Ext W w') => (p78.below h).c0.1
  have l4 := fun w' (h : Ext W w') => (p78.below h).c1.1
  have l5 := fun w' (h : Ext W w') => (p8.below h).c0.1
  have l6 := fun w' (h : Ext W w') => (p8.below h).c1.1
  have f1 := fun w' (h : Ext W w') => is_same _ _ o w' (hpa.below h) (hpb.below h)
  have f2 := fun w' (h : Ext W w') => root_any w.heap.size k hk v2 a w' la za (ha8.below h) (hg8.below h)
  have f3 := fun w' (h : Ext W w') => rroot_any k hk va a w' la za ((ha.below x8).below h)
  have f4 := fun w' (h : Ext W w') => may_any w.heap.size k _ _ x y w' hk (by omega) (by omega) ((hx.below x8).below h) ((hy.below x8).below h) (hg8.below h)
  have f5 := fun w' (h : Ext W w') => rmay_any k _ _ x y w' hk (by omega) (by omega) ((hx.below x8).below h) ((hy.below x8).below h)
  have f6 := fun w' (h : Ext W w') => rsame_any v2 va a a w' (ha8.below h) ((ha.below x8).below h)
  have f7 := fun w' (h : Ext W w') => rsame_any v3 vb b b w' (hb8.below h) ((hb.below x8).below h)
  rw [decide_self] at f6 f7
  have drl := rootX_length k a
  have qe := fun w' => arr_dg.eqlSelf (rootX k a) drl w'
  generalize rootX k a = rt at *
  generalize mayL k x y = mm at *
  have qs : (os == os) = true := beq_iff_eq.2 rfl
  have qm : (mm == mm) = true := beq_iff_eq.2 rfl
  have hcur : Below w.heap.size w W := x8
  have e0 := Ext.refl W
  unfold hv at f2 f4 ⊢
  refine wp_region_E (by kernel_rfl) ?_
  replace hcur := below_via hcur (ext_drew _)
  replace e0 := Ext.trans e0 (ext_drew _)
  refine wpAnyE_take (i := 0) (v := ?_) (some 44) rfl rfl (by kernel_rfl) (by kernel_rfl) (by kernel_rfl) (fun _ _ _ h => h) ?_ ?_
  rotate_left 1
  · (refine Or.inl ⟨by rfl, ?_⟩; intro w' hw'; have hq := below_via hcur hw'; have hq_e0 := Ext.trans e0 hw'; have hz_l1 := l1 _ hq_e0; have hz_l2 := l2 _ hq_e0; have hz_l3 := l3 _ hq_e0; have hz_l4 := l4 _ hq_e0; have hz_l5 := l5 _ hq_e0; have hz_l6 := l6 _ hq_e0; (try go_simp); (try rfl); done)
  try simp only [Act.put, List.setIfInBounds_toArray, List.set_cons_zero, List.set_cons_succ]
  refine wpAnyE_take (i := 1) (v := ?_) (some 45) rfl rfl (by kernel_rfl) (by kernel_rfl) (by kernel_rfl) (fun _ _ _ h => h) ?_ ?_
  rotate_left 1
  · (refine Or.inl ⟨by rfl, ?_⟩; intro w' hw'; have hq := below_via hcur hw'; have hq_e0 := Ext.trans e0 hw'; have hz_l1 := l1 _ hq_e0; have hz_l2 := l2 _ hq_e0; have hz_l3 := l3 _ hq_e0; have hz_l4 := l4 _ hq_e0; have hz_l5 := l5 _ hq_e0; have hz_l6 := l6 _ hq_e0; (try go_simp); (try rfl); done)
  try simp only [Act.put, List.setIfInBounds_toArray, List.set_cons_zero, List.set_cons_succ]
  refine wpAnyE_one (i := 2) rfl (by kernel_rfl) (by rfl) (fun K hK => ?_)
  go_simp
  (with_reducible refine (f1 _ e0).mono ?_); rintro e z1 ⟨rfl, hb⟩
  refine hK.out _ _ hb ?_
  replace hcur := below_via hcur hb; clear hK K
  replace e0 := Ext.trans e0 hb
  try simp only [Act.put, List.setIfInBounds_toArray, List.set_cons_zero, List.set_cons_succ]
  refine wpAnyE_take (i := 3) (v := ?_) (some 47) rfl rfl (by kernel_rfl) (by kernel_rfl) (by kernel_rfl) (fun _ _ _ h => h) ?_ ?_
  rotate_left 1
  · (refine Or.inl ⟨by rfl, ?_⟩; intro w' hw'; have hq := below_via hcur hw'; have hq_e0 := Ext.trans e0 hw'; have hz_l1 := l1 _ hq_e0; have hz_l2 := l2 _ hq_e0; have hz_l3 := l3 _ hq_e0; have hz_l4 := l4 _ hq_e0; have hz_l5 := l5 _ hq_e0; have hz_l6 := l6 _ hq_e0; (try go_simp); (try rfl); done)
  try simp only [Act.put, List.setIfInBounds_toArray, List.set_cons_zero, List.set_cons_succ]
  refine wpAnyE_take (i := 4) (v := ?_) (some 48) rfl rfl (by kernel_rfl) (by kernel_rfl) (by kernel_rfl) (fun _ _ _ h => h) ?_ ?_
  rotate_left 1
  · (refine Or.inl ⟨by rfl, ?_⟩; intro w' hw'; have hq := below_via hcur hw'; have hq_e0 := Ext.trans e0 hw'; have hz_l1 := l1 _ hq_e0; have hz_l2 := l2 _ hq_e0; have hz_l3 := l3 _ hq_e0; have hz_l4 := l4 _ hq_e0; have hz_l5 := l5 _ hq_e0; have hz_l6 := l6 _ hq_e0; (try go_simp); (try rfl); done)
  try simp only [Act.put, List.setIfInBounds_toArray, List.set_cons_zero, List.set_cons_succ]
  refine wpAnyE_take (i := 5) (v := ?_) (some 49) rfl rfl (by kernel_rfl) (by kernel_rfl) (by kernel_rfl) (fun _ _ _ h => h) ?_ ?_
  rotate_left 1
  · (refine Or.inl ⟨by rfl, ?_⟩; intro w' hw'; have hq := below_via hcur hw'; have hq_e0 := Ext.trans e0 hw'; have hz_l1 := l1 _ hq_e0; have hz_l2 := l2 _ hq_e0; have hz_l3 := l3 _ hq_e0; have hz_l4 := l4 _ hq_e0; have hz_l5 := l5 _ hq_e0; have hz_l6 := l6 _ hq_e0; (try go_simp); (try rfl); done)
  try simp only [Act.put, List.setIfInBounds_toArray, List.set_cons_zero, List.set_cons_succ]
  refine wpAnyE_take (i := 6) (v := ?_) (some 50) rfl rfl (by kernel_rfl) (by kernel_rfl) (by kernel_rfl) (fun _ _ _ h => h) ?_ ?_
  rotate_left 1
  · (refine Or.inl ⟨by rfl, ?_⟩; intro w' hw'; have hq := below_via hcur hw'; have hq_e0 := Ext.trans e0 hw'; have hz_l1 := l1 _ hq_e0; have hz_l2 := l2 _ hq_e0; have hz_l3 := l3 _ hq_e0; have hz_l4 := l4 _ hq_e0; have hz_l5 := l5 _ hq_e0; have hz_l6 := l6 _ hq_e0; (try go_simp); (try rfl); done)
  try simp only [Act.put, List.setIfInBounds_toArray, List.set_cons_zero, List.set_cons_succ]
  refine wpAnyE_take (i := 7) (v := ?_) (some 51) rfl rfl (by kernel_rfl) (by kernel_rfl) (by kernel_rfl) (fun _ _ _ h => h) ?_ ?_
  rotate_left 1
  · (refine Or.inl ⟨by rfl, ?_⟩; intro w' hw'; have hq := below_via hcur hw'; have hq_e0 := Ext.trans e0 hw'; have hz_l1 := l1 _ hq_e0; have hz_l2 := l2 _ hq_e0; have hz_l3 := l3 _ hq_e0; have hz_l4 := l4 _ hq_e0; have hz_l5 := l5 _ hq_e0; have hz_l6 := l6 _ hq_e0; (try go_simp); (try rfl); done)
  try simp only [Act.put, List.setIfInBounds_toArray, List.set_cons_zero, List.set_cons_succ]
  refine wpAnyE_take (i := 8) (v := ?_) (some 52) rfl rfl (by kernel_rfl) (by kernel_rfl) (by kernel_rfl) (fun _ _ _ h => h) ?_ ?_
  rotate_left 1
  · (refine Or.inl ⟨by rfl, ?_⟩; intro w' hw'; have hq := below_via hcur hw'; have hq_e0 := Ext.trans e0 hw'; have hz_l1 := l1 _ hq_e0; have hz_l2 := l2 _ hq_e0; have hz_l3 := l3 _ hq_e0; have hz_l4 := l4 _ hq_e0; have hz_l5 := l5 _ hq_e0; have hz_l6 := l6 _ hq_e0; (try go_simp); (try rfl); done)
  try simp only [Act.put, List.setIfInBounds_toArray, List.set_cons_zero, List.set_cons_succ]
  refine wpAnyE_take (i := 9) (v := ?_) (some 53) rfl rfl (by kernel_rfl) (by kernel_rfl) (by kernel_rfl) (fun _ _ _ h => h) ?_ ?_
  rotate_left 1
  · (refine Or.inl ⟨by rfl, ?_⟩; intro w' hw'; have hq := below_via hcur hw'; have hq_e0 := Ext.trans e0 hw'; have hz_l1 := l1 _ hq_e0; have hz_l2 := l2 _ hq_e0; have hz_l3 := l3 _ hq_e0; have hz_l4 := l4 _ hq_e0; have hz_l5 := l5 _ hq_e0; have hz_l6 := l6 _ hq_e0; (try go_simp); (try rfl); done)
  try simp only [Act.put, List.setIfInBounds_toArray, List.set_cons_zero, List.set_cons_succ]
  refine wpAnyE_take (i := 10) (v := ?_) (some 54) rfl rfl (by kernel_rfl) (by kernel_rfl) (by kernel_rfl) (fun _ _ _ h => h) ?_ ?_
  rotate_left 1
  · (refine Or.inl ⟨by rfl, ?_⟩; intro w' hw'; have hq := below_via hcur hw'; have hq_e0 := Ext.trans e0 hw'; have hz_l1 := l1 _ hq_e0; have hz_l2 := l2 _ hq_e0; have hz_l3 := l3 _ hq_e0; have hz_l4 := l4 _ hq_e0; have hz_l5 := l5 _ hq_e0; have hz_l6 := l6 _ hq_e0; (try go_simp); (try rfl); done)
  try simp only [Act.put, List.setIfInBounds_toArray, List.set_cons_zero, List.set_cons_succ]
  refine wpAnyE_take (i := 12) (v := ?_) (some 56) rfl rfl (by kernel_rfl) (by kernel_rfl) (by kernel_rfl) (fun _ _ _ h => h) ?_ ?_
  rotate_left 1
  · (refine Or.inl ⟨by rfl, ?_⟩; intro w' hw'; have hq := below_via hcur hw'; have hq_e0 := Ext.trans e0 hw'; have hz_l1 := l1 _ hq_e0; have hz_l2 := l2 _ hq_e0; have hz_l3 := l3 _ hq_e0; have hz_l4 := l4 _ hq_e0; have hz_l5 := l5 _ hq_e0; have hz_l6 := l6 _ hq_e0; (try go_simp); (try rfl); done)
  try simp only [Act.put, List.setIfInBounds_toArray, List.set_cons_zero, List.set_cons_succ]
  refine wpAnyE_take (i := 13) (v := ?_) (some 57) rfl rfl (by kernel_rfl) (by kernel_rfl) (by kernel_rfl) (fun _ _ _ h => h) ?_ ?_
  rotate_left 1
  · (refine Or.inl ⟨by rfl, ?_⟩; intro w' hw'; have hq := below_via hcur hw'; have hq_e0 := Ext.trans e0 hw'; have hz_l1 := l1 _ hq_e0; have hz_l2 := l2 _ hq_e0; have hz_l3 := l3 _ hq_e0; have hz_l4 := l4 _ hq_e0; have hz_l5 := l5 _ hq_e0; have hz_l6 := l6 _ hq_e0; (try go_simp); (try rfl); done)
  try simp only [Act.put, List.setIfInBounds_toArray, List.set_cons_zero, List.set_cons_succ]
  refine wpAnyE_one (i := 11) rfl (by kernel_rfl) (by rfl) (fun K hK => ?_)
  go_simp
  (with_reducible refine (f2 _ e0).mono ?_); rintro e z2 ⟨rfl, hb⟩
  refine hK.out _ _ hb ?_
  replace hcur := below_via hcur hb; clear hK K
  replace e0 := Ext.trans e0 hb
  try simp only [Act.put, List.setIfInBounds_toArray, List.set_cons_zero, List.set_cons_succ]
  refine wpAnyE_one (i := 14) rfl (by kernel_rfl) (by rfl) (fun K hK => ?_)
  go_simp
  (with_reducible refine (f3 _ e0).mono ?_); rintro e z3 ⟨rfl, hb⟩
  refine hK.out _ _ hb ?_
  replace hcur := below_via hcur hb; clear hK K
  replace e0 := Ext.trans e0 hb
  try simp only [Act.put, List.setIfInBounds_toArray, List.set_cons_zero, List.set_cons_succ]
  refine wpAnyE_take (i := 15) (v := ?_) (some 59) rfl rfl (by kernel_rfl) (by kernel_rfl) (by kernel_rfl) (fun _ _ _ h => h) ?_ ?_
  rotate_left 1
  · (refine Or.inl ⟨by rfl, ?_⟩; intro w' hw'; have hq := below_via hcur hw'; have hq_e0 := Ext.trans e0 hw'; have hz_l1 := l1 _ hq_e0; have hz_l2 := l2 _ hq_e0; have hz_l3 := l3 _ hq_e0; have hz_l4 := l4 _ hq_e0; have hz_l5 := l5 _ hq_e0; have hz_l6 := l6 _ hq_e0; (try go_simp); (try rfl); done)
  try simp only [Act.put, List.setIfInBounds_toArray, List.set_cons_zero, List.set_cons_succ]
  refine wpAnyE_take (i := 16) (v := ?_) (some 60) rfl rfl (by kernel_rfl) (by kernel_rfl) (by kernel_rfl) (fun _ _ _ h => h) ?_ ?_
  rotate_left 1
  · (refine Or.inl ⟨by rfl, ?_⟩; intro w' hw'; have hq := below_via hcur hw'; have hq_e0 := Ext.trans e0 hw'; have hz_l1 := l1 _ hq_e0; have hz_l2 := l2 _ hq_e0; have hz_l3 := l3 _ hq_e0; have hz_l4 := l4 _ hq_e0; have hz_l5 := l5 _ hq_e0; have hz_l6 := l6 _ hq_e0; (try go_simp); (try rfl); done)
  try simp only [Act.put, List.setIfInBounds_toArray, List.set_cons_zero, List.set_cons_succ]
  refine wpAnyE_take (i := 17) (v := ?_) (some 61) rfl rfl (by kernel_rfl) (by kernel_rfl) (by kernel_rfl) (fun _ _ _ h => h) ?_ ?_
  rotate_left 1
  · (refine Or.inl ⟨by rfl, ?_⟩; intro w' hw'; have hq := below_via hcur hw'; have hq_e0 := Ext.trans e0 hw'; have hz_l1 := l1 _ hq_e0; have hz_l2 := l2 _ hq_e0; have hz_l3 := l3 _ hq_e0; have hz_l4 := l4 _ hq_e0; have hz_l5 := l5 _ hq_e0; have hz_l6 := l6 _ hq_e0; (try go_simp); (try rfl); done)
  try simp only [Act.put, List.setIfInBounds_toArray, List.set_cons_zero, List.set_cons_succ]
  refine wpAnyE_take (i := 18) (v := ?_) (some 62) rfl rfl (by kernel_rfl) (by kernel_rfl) (by kernel_rfl) (fun _ _ _ h => h) ?_ ?_
  rotate_left 1
  · (refine Or.inl ⟨by rfl, ?_⟩; intro w' hw'; have hq := below_via hcur hw'; have hq_e0 := Ext.trans e0 hw'; have hz_l1 := l1 _ hq_e0; have hz_l2 := l2 _ hq_e0; have hz_l3 := l3 _ hq_e0; have hz_l4 := l4 _ hq_e0; have hz_l5 := l5 _ hq_e0; have hz_l6 := l6 _ hq_e0; (try go_simp); (try rfl); done)
  try simp only [Act.put, List.setIfInBounds_toArray, List.set_cons_zero, List.set_cons_succ]
  refine wpAnyE_take (i := 19) (v := ?_) (some 63) rfl rfl (by kernel_rfl) (by kernel_rfl) (by kernel_rfl) (fun _ _ _ h => h) ?_ ?_
  rotate_left 1
  · (refine Or.inl ⟨by rfl, ?_⟩; intro w' hw'; have hq := below_via hcur hw'; have hq_e0 := Ext.trans e0 hw'; have hz_l1 := l1 _ hq_e0; have hz_l2 := l2 _ hq_e0; have hz_l3 := l3 _ hq_e0; have hz_l4 := l4 _ hq_e0; have hz_l5 := l5 _ hq_e0; have hz_l6 := l6 _ hq_e0; (try go_simp); (try rfl); done)
  try simp only [Act.put, List.setIfInBounds_toArray, List.set_cons_zero, List.set_cons_succ]
  refine wpAnyE_take (i := 21) (v := ?_) (some 65) rfl rfl (by kernel_rfl) (by kernel_rfl) (by kernel_rfl) (fun _ _ _ h => h) ?_ ?_
  rotate_left 1
  · (refine Or.inl ⟨by rfl, ?_⟩; intro w' hw'; have hq := below_via hcur hw'; have hq_e0 := Ext.trans e0 hw'; have hz_l1 := l1 _ hq_e0; have hz_l2 := l2 _ hq_e0; have hz_l3 := l3 _ hq_e0; have hz_l4 := l4 _ hq_e0; have hz_l5 := l5 _ hq_e0; have hz_l6 := l6 _ hq_e0; (try go_simp); (try rfl); done)
  try simp only [Act.put, List.setIfInBounds_toArray, List.set_cons_zero, List.set_cons_succ]
  refine wpAnyE_take (i := 22) (v := ?_) (some 66) rfl rfl (by kernel_rfl) (by kernel_rfl) (by kernel_rfl) (fun _ _ _ h => h) ?_ ?_
  rotate_left 1
  · (refine Or.inl ⟨by rfl, ?_⟩; intro w' hw'; have hq := below_via hcur hw'; have hq_e0 := Ext.trans e0 hw'; have hz_l1 := l1 _ hq_e0; have hz_l2 := l2 _ hq_e0; have hz_l3 := l3 _ hq_e0; have hz_l4 := l4 _ hq_e0; have hz_l5 := l5 _ hq_e0; have hz_l6 := l6 _ hq_e0; (try go_simp); (try rfl); done)
  try simp only [Act.put, List.setIfInBounds_toArray, List.set_cons_zero, List.set_cons_succ]
  refine wpAnyE_one (i := 20) rfl (by kernel_rfl) (by rfl) (fun K hK => ?_)
  go_simp
  (with_reducible refine (f4 _ e0).mono ?_); rintro e z4 ⟨rfl, hb⟩
  refine hK.out _ _ hb ?_
  replace hcur := below_via hcur hb; clear hK K
  replace e0 := Ext.trans e0 hb
  try simp only [Act.put, List.setIfInBounds_toArray, List.set_cons_zero, List.set_cons_succ]
  refine wpAnyE_one (i := 23) rfl (by kernel_rfl) (by rfl) (fun K hK => ?_)
  go_simp
  (with_reducible refine (f5 _ e0).mono ?_); rintro e z5 ⟨rfl, hb⟩
  refine hK.out _ _ hb ?_
  replace hcur := below_via hcur hb; clear hK K
  replace e0 := Ext.trans e0 hb
  try simp only [Act.put, List.setIfInBounds_toArray, List.set_cons_zero, List.set_cons_succ]
  refine wpAnyE_take (i := 24) (v := ?_) (some 68) rfl rfl (by kernel_rfl) (by kernel_rfl) (by kernel_rfl) (fun _ _ _ h => h) ?_ ?_
  rotate_left 1
  · (refine Or.inl ⟨by rfl, ?_⟩; intro w' hw'; have hq := below_via hcur hw'; have hq_e0 := Ext.trans e0 hw'; have hz_l1 := l1 _ hq_e0; have hz_l2 := l2 _ hq_e0; have hz_l3 := l3 _ hq_e0; have hz_l4 := l4 _ hq_e0; have hz_l5 := l5 _ hq_e0; have hz_l6 := l6 _ hq_e0; (try go_simp); (try rfl); done)
  try simp only [Act.put, List.setIfInBounds_toArray, List.set_cons_zero, List.set_cons_succ]
  refine wpAnyE_take (i := 25) (v := ?_) (some 69) rfl rfl (by kernel_rfl) (by kernel_rfl) (by kernel_rfl) (fun _ _ _ h => h) ?_ ?_
  rotate_left 1
  · (refine Or.inl ⟨by rfl, ?_⟩; intro w' hw'; have hq := below_via hcur hw'; have hq_e0 := Ext.trans e0 hw'; have hz_l1 := l1 _ hq_e0; have hz_l2 := l2 _ hq_e0; have hz_l3 := l3 _ hq_e0; have hz_l4 := l4 _ hq_e0; have hz_l5 := l5 _ hq_e0; have hz_l6 := l6 _ hq_e0; (try go_simp); (try rfl); done)
  try simp only [Act.put, List.setIfInBounds_toArray, List.set_cons_zero, List.set_cons_succ]
  refine wpAnyE_take (i := 26) (v := ?_) (some 70) rfl rfl (by kernel_rfl) (by kernel_rfl) (by kernel_rfl) (fun _ _ _ h => h) ?_ ?_
  rotate_left 1
  · (refine Or.inl ⟨by rfl, ?_⟩; intro w' hw'; have hq := below_via hcur hw'; have hq_e0 := Ext.trans e0 hw'; have hz_l1 := l1 _ hq_e0; have hz_l2 := l2 _ hq_e0; have hz_l3 := l3 _ hq_e0; have hz_l4 := l4 _ hq_e0; have hz_l5 := l5 _ hq_e0; have hz_l6 := l6 _ hq_e0; (try go_simp); (try rfl); done)
  try simp only [Act.put, List.setIfInBounds_toArray, List.set_cons_zero, List.set_cons_succ]
  refine wpAnyE_take (i := 27) (v := ?_) (some 71) rfl rfl (by kernel_rfl) (by kernel_rfl) (by kernel_rfl) (fun _ _ _ h => h) ?_ ?_
  rotate_left 1
  · (refine Or.inl ⟨by rfl, ?_⟩; intro w' hw'; have hq := below_via hcur hw'; have hq_e0 := Ext.trans e0 hw'; have hz_l1 := l1 _ hq_e0; have hz_l2 := l2 _ hq_e0; have hz_l3 := l3 _ hq_e0; have hz_l4 := l4 _ hq_e0; have hz_l5 := l5 _ hq_e0; have hz_l6 := l6 _ hq_e0; (try go_simp); (try rfl); done)
  try simp only [Act.put, List.setIfInBounds_toArray, List.set_cons_zero, List.set_cons_succ]
  refine wpAnyE_take (i := 28) (v := ?_) (some 72) rfl rfl (by kernel_rfl) (by kernel_rfl) (by kernel_rfl) (fun _ _ _ h => h) ?_ ?_
  rotate_left 1
  · (refine Or.inl ⟨by rfl, ?_⟩; intro w' hw'; have hq := below_via hcur hw'; have hq_e0 := Ext.trans e0 hw'; have hz_l1 := l1 _ hq_e0; have hz_l2 := l2 _ hq_e0; have hz_l3 := l3 _ hq_e0; have hz_l4 := l4 _ hq_e0; have hz_l5 := l5 _ hq_e0; have hz_l6 := l6 _ hq_e0; (try go_simp); (try rfl); done)
  try simp only [Act.put, List.setIfInBounds_toArray, List.set_cons_zero, List.set_cons_succ]
  refine wpAnyE_one (i := 29) rfl (by kernel_rfl) (by rfl) (fun K hK => ?_)
  go_simp
  (with_reducible refine (f6 _ e0).mono ?_); rintro e z6 ⟨rfl, hb⟩
  refine hK.out _ _ hb ?_
  replace hcur := below_via hcur hb; clear hK K
  replace e0 := Ext.trans e0 hb
  try simp only [Act.put, List.setIfInBounds_toArray, List.set_cons_zero, List.set_cons_succ]
  refine wpAnyE_take (i := 30) (v := ?_) (some 74) rfl rfl (by kernel_rfl) (by kernel_rfl) (by kernel_rfl) (fun _ _ _ h => h) ?_ ?_
  rotate_left 1
  · (refine Or.inl ⟨by rfl, ?_⟩; intro w' hw'; have hq := below_via hcur hw'; have hq_e0 := Ext.trans e0 hw'; have hz_l1 := l1 _ hq_e0; have hz_l2 := l2 _ hq_e0; have hz_l3 := l3 _ hq_e0; have hz_l4 := l4 _ hq_e0; have hz_l5 := l5 _ hq_e0; have hz_l6 := l6 _ hq_e0; (try go_simp); (try rfl); done)
  try simp only [Act.put, List.setIfInBounds_toArray, List.set_cons_zero, List.set_cons_succ]
  refine wpAnyE_take (i := 31) (v := ?_) (some 75) rfl rfl (by kernel_rfl) (by kernel_rfl) (by kernel_rfl) (fun _ _ _ h => h) ?_ ?_
  rotate_left 1
  · (refine Or.inl ⟨by rfl, ?_⟩; intro w' hw'; have hq := below_via hcur hw'; have hq_e0 := Ext.trans e0 hw'; have hz_l1 := l1 _ hq_e0; have hz_l2 := l2 _ hq_e0; have hz_l3 := l3 _ hq_e0; have hz_l4 := l4 _ hq_e0; have hz_l5 := l5 _ hq_e0; have hz_l6 := l6 _ hq_e0; (try go_simp); (try rfl); done)
  try simp only [Act.put, List.setIfInBounds_toArray, List.set_cons_zero, List.set_cons_succ]
  refine wpAnyE_take (i := 32) (v := ?_) (some 76) rfl rfl (by kernel_rfl) (by kernel_rfl) (by kernel_rfl) (fun _ _ _ h => h) ?_ ?_
  rotate_left 1
  · (refine Or.inl ⟨by rfl, ?_⟩; intro w' hw'; have hq := below_via hcur hw'; have hq_e0 := Ext.trans e0 hw'; have hz_l1 := l1 _ hq_e0; have hz_l2 := l2 _ hq_e0; have hz_l3 := l3 _ hq_e0; have hz_l4 := l4 _ hq_e0; have hz_l5 := l5 _ hq_e0; have hz_l6 := l6 _ hq_e0; (try go_simp); (try rfl); done)
  try simp only [Act.put, List.setIfInBounds_toArray, List.set_cons_zero, List.set_cons_succ]
  refine wpAnyE_take (i := 33) (v := ?_) (some 77) rfl rfl (by kernel_rfl) (by kernel_rfl) (by kernel_rfl) (fun _ _ _ h => h) ?_ ?_
  rotate_left 1
  · (refine Or.inl ⟨by rfl, ?_⟩; intro w' hw'; have hq := below_via hcur hw'; have hq_e0 := Ext.trans e0 hw'; have hz_l1 := l1 _ hq_e0; have hz_l2 := l2 _ hq_e0; have hz_l3 := l3 _ hq_e0; have hz_l4 := l4 _ hq_e0; have hz_l5 := l5 _ hq_e0; have hz_l6 := l6 _ hq_e0; (try go_simp); (try rfl); done)
  try simp only [Act.put, List.setIfInBounds_toArray, List.set_cons_zero, List.set_cons_succ]
  refine wpAnyE_one (i := 34) rfl (by kernel_rfl) (by rfl) (fun K hK => ?_)
  go_simp
  (with_reducible refine (f7 _ e0).mono ?_); rintro e z7 ⟨rfl, hb⟩
  refine hK.out _ _ hb ?_
  replace hcur := below_via hcur hb; clear hK K
  replace e0 := Ext.trans e0 hb
  try simp only [Act.put, List.setIfInBounds_toArray, List.set_cons_zero, List.set_cons_succ]
  refine wpAnyE_take (i := 35) (v := ?_) (some 79) rfl rfl (by kernel_rfl) (by kernel_rfl) (by kernel_rfl) (fun _ _ _ h => h) ?_ ?_
  rotate_left 1
  · (refine Or.inl ⟨by rfl, ?_⟩; intro w' hw'; have hq := below_via hcur hw'; have hq_e0 := Ext.trans e0 hw'; have hz_l1 := l1 _ hq_e0; have hz_l2 := l2 _ hq_e0; have hz_l3 := l3 _ hq_e0; have hz_l4 := l4 _ hq_e0; have hz_l5 := l5 _ hq_e0; have hz_l6 := l6 _ hq_e0; (try go_simp); (try rfl); done)
  try simp only [Act.put, List.setIfInBounds_toArray, List.set_cons_zero, List.set_cons_succ]
  refine wpAnyE_take (i := 36) (v := ?_) (some 80) rfl rfl (by kernel_rfl) (by kernel_rfl) (by kernel_rfl) (fun _ _ _ h => h) ?_ ?_
  rotate_left 1
  · (refine Or.inl ⟨by rfl, ?_⟩; intro w' hw'; have hq := below_via hcur hw'; have hq_e0 := Ext.trans e0 hw'; have hz_l1 := l1 _ hq_e0; have hz_l2 := l2 _ hq_e0; have hz_l3 := l3 _ hq_e0; have hz_l4 := l4 _ hq_e0; have hz_l5 := l5 _ hq_e0; have hz_l6 := l6 _ hq_e0; (try go_simp); (try rfl); done)
  try simp only [Act.put, List.setIfInBounds_toArray, List.set_cons_zero, List.set_cons_succ]
  refine wpAnyE_one (i := 37) rfl (by kernel_rfl) (by rfl) (fun K hK => ?_)
  go_simp
  (with_reducible refine (wakes_any _).mono ?_); rintro e z8 ⟨rfl, hb⟩
  refine hK.out _ _ hb ?_
  replace hcur := below_via hcur hb; clear hK K
  replace e0 := Ext.trans e0 hb
  try simp only [Act.put, List.setIfInBounds_toArray, List.set_cons_zero, List.set_cons_succ]
  refine wpAnyE_take (i := 38) (v := ?_) (some 82) rfl rfl (by kernel_rfl) (by kernel_rfl) (by kernel_rfl) (fun _ _ _ h => h) ?_ ?_
  rotate_left 1
  · (refine Or.inl ⟨by rfl, ?_⟩; intro w' hw'; have hq := below_via hcur hw'; have hq_e0 := Ext.trans e0 hw'; have hz_l1 := l1 _ hq_e0; have hz_l2 := l2 _ hq_e0; have hz_l3 := l3 _ hq_e0; have hz_l4 := l4 _ hq_e0; have hz_l5 := l5 _ hq_e0; have hz_l6 := l6 _ hq_e0; (try go_simp); (try rfl); done)
  try simp only [Act.put, List.setIfInBounds_toArray, List.set_cons_zero, List.set_cons_succ]
  refine wpAnyE_take (i := 39) (v := ?_) (some 10) rfl rfl (by kernel_rfl) (by kernel_rfl) (by kernel_rfl) (fun _ _ _ h => h) ?_ ?_
  rotate_left 1
  · (refine Or.inl ⟨by rfl, ?_⟩; intro w' hw'; have hq := below_via hcur hw'; have hq_e0 := Ext.trans e0 hw'; have hz_l1 := l1 _ hq_e0; have hz_l2 := l2 _ hq_e0; have hz_l3 := l3 _ hq_e0; have hz_l4 := l4 _ hq_e0; have hz_l5 := l5 _ hq_e0; have hz_l6 := l6 _ hq_e0; (try go_simp); (try rfl); done)
  try simp only [Act.put, List.setIfInBounds_toArray, List.set_cons_zero, List.set_cons_succ]
  refine wpAnyE_done (by kernel_rfl) ?_ _
  go_wp2_with fail
  go_ret
  exact ⟨rfl, hcur⟩
end Go.Proofs.Ytnpbapefjbfndaa
