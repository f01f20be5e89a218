/- wakes: the chapter's rows (walk). -/
import Derived.Test.YtnpbapefjbfndaaZExrJ
import Derived.Test.YtnpbapefjbfndaaZExrK
import Derived.Lib.SlBytesConst
set_option linter.unusedVariables false
set_option linter.unusedSimpArgs false
set_option maxRecDepth 10000
namespace Go.Proofs.Ytnpbapefjbfndaa
open Go.RowKit
theorem conv_const (w : World) (C : Array Value) (n c g : Nat) (hg : g = w.heap.size) : (convert 23 23 (.slice (some ⟨g, 0, none⟩) n c)).run Try.prog (w.alloc (.cells C 5)) = .ok (.slice (some ⟨g, 0, none⟩) n c) (w.alloc (.cells C 5 (C.size, C.size + 1))) := by
  subst hg; exact Lib.run_convert_bytes_const w 23 5 C n c Try.underlying23 Try.underlying5
attribute [local go_sem high] dg_cells guard_dg conv_const

set_option maxHeartbeats 4000000 in
theorem may_nil (va vb : Value) (a b : List UInt8) (w : World) (hva : SlB w va a) (hvb : SlB w vb b) :
    Calls Try.prog 17 #[.nilFunc, .agg #[va, vb]] w fun e w' => e = .returned (.bool false) ∧ Below w.heap.size w w' := by
  obtain ⟨A, c, rfl, _⟩ := id hva
  obtain ⟨A', c', rfl, _⟩ := id hvb
  have e1 := ext_alloc w (.cells #[.slice A a.length c, .slice A' b.length c'] 30)
  go_enter Try.func17, Try.ntmps17
  go_wp2_with fail
  generalize World.alloc w _ = W at *
  have hcur : Below w.heap.size w W := e1
  refine wp_region_E (by kernel_rfl) ?_
  replace hcur := below_via hcur (ext_drew _)
  refine wpAnyE_take (i := 0) (v := ?_) (some 5) rfl rfl (by kernel_rfl) (by kernel_rfl) (by kernel_rfl) (fun _ _ _ h => h) ?_ ?_
  rotate_left 1
  · (refine Or.inl ⟨by rfl, ?_⟩; intro w' hw'; have hq := below_via hcur hw'; (try go_simp); (try rfl); done)
  try simp only [Act.put, List.setIfInBounds_toArray, List.set_cons_zero, List.set_cons_succ]
  refine wpAnyE_take (i := 1) (v := ?_) (some 6) rfl rfl (by kernel_rfl) (by kernel_rfl) (by kernel_rfl) (fun _ _ _ h => h) ?_ ?_
  rotate_left 1
  · (refine Or.inl ⟨by rfl, ?_⟩; intro w' hw'; have hq := below_via hcur hw'; (try go_simp); (try rfl); done)
  try simp only [Act.put, List.setIfInBounds_toArray, List.set_cons_zero, List.set_cons_succ]
  refine wpAnyE_take (i := 2) (v := ?_) (some 7) rfl rfl (by kernel_rfl) (by kernel_rfl) (by kernel_rfl) (fun _ _ _ h => h) ?_ ?_
  rotate_left 1
  · (refine Or.inl ⟨by rfl, ?_⟩; intro w' hw'; have hq := below_via hcur hw'; (try go_simp); (try rfl); done)
  try simp only [Act.put, List.setIfInBounds_toArray, List.set_cons_zero, List.set_cons_succ]
  refine wpAnyE_take (i := 3) (v := undef) (some 8) rfl rfl (by kernel_rfl) (by kernel_rfl) (by kernel_rfl) (fun _ _ _ h => h) (Or.inr ⟨by rfl, rfl⟩) ?_
  try simp only [Act.put, List.setIfInBounds_toArray, List.set_cons_zero, List.set_cons_succ]
  refine wpAnyE_take (i := 4) (v := undef) (some 9) rfl rfl (by kernel_rfl) (by kernel_rfl) (by kernel_rfl) (fun _ _ _ h => h) (Or.inr ⟨by rfl, rfl⟩) ?_
  try simp only [Act.put, List.setIfInBounds_toArray, List.set_cons_zero, List.set_cons_succ]
  refine wpAnyE_take (i := 5) (v := undef) (some 10) rfl rfl (by kernel_rfl) (by kernel_rfl) (by kernel_rfl) (fun _ _ _ h => h) (Or.inr ⟨by rfl, rfl⟩) ?_
  try simp only [Act.put, List.setIfInBounds_toArray, List.set_cons_zero, List.set_cons_succ]
  refine wpAnyE_take (i := 6) (v := undef) (some 11) rfl rfl (by kernel_rfl) (by kernel_rfl) (by kernel_rfl) (fun _ _ _ h => h) (Or.inr ⟨by rfl, rfl⟩) ?_
  try simp only [Act.put, List.setIfInBounds_toArray, List.set_cons_zero, List.set_cons_succ]
  refine wpAnyE_take (i := 7) (v := undef) (some 12) rfl rfl (by kernel_rfl) (by kernel_rfl) (by kernel_rfl) (fun _ _ _ h => h) (Or.inr ⟨by rfl, rfl⟩) ?_
  try simp only [Act.put, List.setIfInBounds_toArray, List.set_cons_zero, List.set_cons_succ]
  refine wpAnyE_take (i := 8) (v := undef) (some 13) rfl rfl (by kernel_rfl) (by kernel_rfl) (by kernel_rfl) (fun _ _ _ h => h) (Or.inr ⟨by rfl, rfl⟩) ?_
  try simp only [Act.put, List.setIfInBounds_toArray, List.set_cons_zero, List.set_cons_succ]
  refine wpAnyE_take (i := 9) (v := ?_) (some 14) rfl rfl (by kernel_rfl) (by kernel_rfl) (by kernel_rfl) (fun _ _ _ h => h) ?_ ?_
  rotate_left 1
  · (refine Or.inl ⟨by rfl, ?_⟩; intro w' hw'; have hq := below_via hcur hw'; (try go_simp); (try rfl); done)
  try simp only [Act.put, List.setIfInBounds_toArray, List.set_cons_zero, List.set_cons_succ]
  refine wpAnyE_take (i := 10) (v := ?_) (some 15) rfl rfl (by kernel_rfl) (by kernel_rfl) (by kernel_rfl) (fun _ _ _ h => h) ?_ ?_
  rotate_left 1
  · (refine Or.inl ⟨by rfl, ?_⟩; intro w' hw'; have hq := below_via hcur hw'; (try go_simp); (try rfl); done)
  try simp only [Act.put, List.setIfInBounds_toArray, List.set_cons_zero, List.set_cons_succ]
  refine wpAnyE_take (i := 11) (v := undef) (some 16) rfl rfl (by kernel_rfl) (by kernel_rfl) (by kernel_rfl) (fun _ _ _ h => h) (Or.inr ⟨by rfl, rfl⟩) ?_
  try simp only [Act.put, List.setIfInBounds_toArray, List.set_cons_zero, List.set_cons_succ]
  refine wpAnyE_take (i := 12) (v := undef) (some 17) rfl rfl (by kernel_rfl) (by kernel_rfl) (by kernel_rfl) (fun _ _ _ h => h) (Or.inr ⟨by rfl, rfl⟩) ?_
  try simp only [Act.put, List.setIfInBounds_toArray, List.set_cons_zero, List.set_cons_succ]
  refine wpAnyE_take (i := 13) (v := undef) (some 18) rfl rfl (by kernel_rfl) (by kernel_rfl) (by kernel_rfl) (fun _ _ _ h => h) (Or.inr ⟨by rfl, rfl⟩) ?_
  try simp only [Act.put, List.setIfInBounds_toArray, List.set_cons_zero, List.set_cons_succ]
  refine wpAnyE_take (i := 14) (v := undef) (some 19) rfl rfl (by kernel_rfl) (by kernel_rfl) (by kernel_rfl) (fun _ _ _ h => h) (Or.inr ⟨by rfl, rfl⟩) ?_
  try simp only [Act.put, List.setIfInBounds_toArray, List.set_cons_zero, List.set_cons_succ]
  refine wpAnyE_take (i := 15) (v := undef) (some 20) rfl rfl (by kernel_rfl) (by kernel_rfl) (by kernel_rfl) (fun _ _ _ h => h) (Or.inr ⟨by rfl, rfl⟩) ?_
  try simp only [Act.put, List.setIfInBounds_toArray, List.set_cons_zero, List.set_cons_succ]
  refine wpAnyE_take (i := 16) (v := undef) (some 21) rfl rfl (by kernel_rfl) (by kernel_rfl) (by kernel_rfl) (fun _ _ _ h => h) (Or.inr ⟨by rfl, rfl⟩) ?_
  try simp only [Act.put, List.setIfInBounds_toArray, List.set_cons_zero, List.set_cons_succ]
  refine wpAnyE_take (i := 17) (v := undef) (some 22) rfl rfl (by kernel_rfl) (by kernel_rfl) (by kernel_rfl) (fun _ _ _ h => h) (Or.inr ⟨by rfl, rfl⟩) ?_
  try simp only [Act.put, List.setIfInBounds_toArray, List.set_cons_zero, List.set_cons_succ]
  refine wpAnyE_take (i := 18) (v := undef) (some 23) rfl rfl (by kernel_rfl) (by kernel_rfl) (by kernel_rfl) (fun _ _ _ h => h) (Or.inr ⟨by rfl, rfl⟩) ?_
  try simp only [Act.put, List.setIfInBounds_toArray, List.set_cons_zero, List.set_cons_succ]
  refine wpAnyE_take (i := 19) (v := undef) (some 24) rfl rfl (by kernel_rfl) (by kernel_rfl) (by kernel_rfl) (fun _ _ _ h => h) (Or.inr ⟨by rfl, rfl⟩) ?_
  try simp only [Act.put, List.setIfInBounds_toArray, List.set_cons_zero, List.set_cons_succ]
  refine wpAnyE_take (i := 20) (v := ?_) (some 25) rfl rfl (by kernel_rfl) (by kernel_rfl) (by kernel_rfl) (fun _ _ _ h => h) ?_ ?_
  rotate_left 1
  · (refine Or.inl ⟨by rfl, ?_⟩; intro w' hw'; have hq := below_via hcur hw'; (try go_simp); (try rfl); done)
  try simp only [Act.put, List.setIfInBounds_toArray, List.set_cons_zero, List.set_cons_succ]
  refine wpAnyE_take (i := 21) (v := ?_) (some 4) rfl rfl (by kernel_rfl) (by kernel_rfl) (by kernel_rfl) (fun _ _ _ h => h) ?_ ?_
  rotate_left 1
  · (refine Or.inl ⟨by rfl, ?_⟩; intro w' hw'; have hq := below_via hcur hw'; (try go_simp); (try rfl); done)
  try simp only [Act.put, List.setIfInBounds_toArray, List.set_cons_zero, List.set_cons_succ]
  refine wpAnyE_done (by kernel_rfl) ?_ _
  go_wp2_with fail
  go_ret
  exact ⟨rfl, hcur⟩
/-- Texts in a new row. -/
theorem texts_lit {w : World} (vs : List Value) (zs : List (List UInt8)) (hl : vs.length = zs.length) (hn : vs.length ≤ 1099511627776) (h : ∀ (i : Nat) u x, vs[i]? = some u → zs[i]? = some x → SlB w u x) :
    SlX (w.alloc (.cells vs.toArray 23)) (.slice (some ⟨w.heap.size, 0, none⟩) vs.length vs.length) zs :=
  SlX.of ⟨_, _, rfl, Nat.le_refl _, by omega, by simp, rc_new w vs _⟩ hl fun i u x hu hx => (h i u x hu hx).below (ext_alloc _ _)
theorem texts2 {w : World} {u v : Value} {x y : List UInt8} (hu : SlB w u x) (hv : SlB w v y) : SlX (w.alloc (.cells #[u, v] 23)) (.slice (some ⟨w.heap.size, 0, none⟩) 2 2) [x, y] :=
  texts_lit [u, v] [x, y] rfl (by simp) fun i a b ha hb => by
    match i, ha, hb with
    | 0, ha, hb => cases ha; cases hb; exact hu
    | 1, ha, hb => cases ha; cases hb; exact hv
theorem texts3 {w : World} {u v t : Value} {x y z : List UInt8} (hu : SlB w u x) (hv : SlB w v y) (ht : SlB w t z) : SlX (w.alloc (.cells #[u, v, t] 23)) (.slice (some ⟨w.heap.size, 0, none⟩) 3 3) [x, y, z] :=
  texts_lit [u, v, t] [x, y, z] rfl (by simp) fun i a b ha hb => by
    match i, ha, hb with
    | 0, ha, hb => cases ha; cases hb; exact hu
    | 1, ha, hb => cases ha; cases hb; exact hv
    | 2, ha, hb => cases ha; cases hb; exact ht
/-- A pair that is handed back, laid open. -/
theorem pair_open {w : World} {v : Value} {o : Option (List UInt8 × List UInt8)} (h : PairAt w v o) : ∃ A c A' c', v = .agg #[.slice A (o.getD ([], [])).1.length c, .slice A' (o.getD ([], [])).2.length c'] ∧ SlB w (.slice A (o.getD ([], [])).1.length c) (o.getD ([], [])).1 ∧ SlB w (.slice A' (o.getD ([], [])).2.length c') (o.getD ([], [])).2 := by
  obtain ⟨va, vb, rfl, ha, hb⟩ := h
  obtain ⟨A, c, rfl, _⟩ := id ha
  obtain ⟨A', c', rfl, _⟩ := id hb
  exact ⟨A, c, A', c', rfl, ha, hb⟩
structure Row (g : Nat) (A B C : Nat) (w : World) : Prop where
  h : HvAt w g 0
  a : SlB w (.slice (some ⟨A, 0, none⟩) 1 1) [97]
  b : SlB w (.slice (some ⟨B, 0, none⟩) 1 1) [98]
  c : SlB w (.slice (some ⟨C, 0, none⟩) 1 1) [99]
theorem Row.ext {g A B C : Nat} {w w' : World} (h : Row g A B C w) (hb : Ext w w') : Row g A B C w' := ⟨h.h.below hb, h.a.below hb, h.b.below hb, h.c.below hb⟩
theorem lits3 (w : World) : SlB (((w.alloc (.cells #[.int .u8 97] 5 (1, 2))).alloc (.cells #[.int .u8 98] 5 (1, 2))).alloc (.cells #[.int .u8 99] 5 (1, 2))) (.slice (some ⟨w.heap.size, 0, none⟩) 1 1) [97] ∧
    SlB (((w.alloc (.cells #[.int .u8 97] 5 (1, 2))).alloc (.cells #[.int .u8 98] 5 (1, 2))).alloc (.cells #[.int .u8 99] 5 (1, 2))) (.slice (some ⟨w.heap.size + 1, 0, none⟩) 1 1) [98] ∧
    SlB (((w.alloc (.cells #[.int .u8 97] 5 (1, 2))).alloc (.cells #[.int .u8 98] 5 (1, 2))).alloc (.cells #[.int .u8 99] 5 (1, 2))) (.slice (some ⟨w.heap.size + 1 + 1, 0, none⟩) 1 1) [99] ∧
    Ext w (((w.alloc (.cells #[.int .u8 97] 5 (1, 2))).alloc (.cells #[.int .u8 98] 5 (1, 2))).alloc (.cells #[.int .u8 99] 5 (1, 2))) := by
  have e1 := ext_alloc w (.cells #[.int .u8 97] 5 (1, 2))
  have e2 := ext_alloc (w.alloc (.cells #[.int .u8 97] 5 (1, 2))) (.cells #[.int .u8 98] 5 (1, 2))
  have e3 := ext_alloc ((w.alloc (.cells #[.int .u8 97] 5 (1, 2))).alloc (.cells #[.int .u8 98] 5 (1, 2))) (.cells #[.int .u8 99] 5 (1, 2))
  have s1 : SlB _ _ [97] := slB_one w 97 5 (1, 2)
  have s2 : SlB _ _ [98] := slB_one (w.alloc (.cells #[.int .u8 97] 5 (1, 2))) 98 5 (1, 2)
  have s3 : SlB _ _ [99] := slB_one ((w.alloc (.cells #[.int .u8 97] 5 (1, 2))).alloc (.cells #[.int .u8 98] 5 (1, 2))) 99 5 (1, 2)
  rw [size_alloc] at s2
  rw [size_alloc, size_alloc] at s3
  exact ⟨s1.below (Ext.trans e2 e3), s2.below e3, s3, Ext.trans e1 (Ext.trans e2 e3)⟩
abbrev hfn (g : Nat) : Value := .func (.func 27) #[] #[.pointer (some ⟨g, 0, none⟩)]
abbrev lit1 (n : Nat) : Value := .slice (some ⟨n, 0, none⟩) 1 1
abbrev oneT (n : Nat) : Obj := .cells #[.slice (some ⟨n, 0, none⟩) 1 1] 23
theorem small1 {x : List UInt8} (h : x.length ≤ 10) {l : List (List UInt8)} (hl : l = [x]) : ∀ z ∈ l, z.length ≤ 1048576 := by subst hl; intro z hz; rw [List.mem_singleton.1 hz]; omega
theorem row_L1 {W : World} {g n1 : Nat} (r : Row g n1 (n1 + 1) (n1 + 1 + 1) W) :
    Calls Try.prog 12 #[hfn g, .slice (some ⟨W.heap.size, 0, none⟩) 1 1, .slice (some ⟨W.heap.size + 1, 0, none⟩) 1 1] ((W.alloc (oneT n1)).alloc (oneT (n1 + 1)))
      fun e w' => ∃ A c A' c', e = .returned (.tuple #[.agg #[.slice A 2 c, .slice A' 2 c'], .bool true]) ∧ SlB w' (.slice A 2 c) [0, 97] ∧ SlB w' (.slice A' 2 c') [0, 98] ∧ Ext W w' := by
  have e1 := ext_alloc W (oneT n1)
  have e2 := ext_alloc (W.alloc (oneT n1)) (oneT (n1 + 1))
  have x1 := (one_part r.a).below e2
  have x2 := one_part (r.b.below e1)
  rw [size_alloc] at x2
  have h := lists_any g 0 (by decide) _ _ [[97]] [[98]] _ (by decide) (by decide) (small1 (by decide) rfl) (small1 (by decide) rfl) x1 x2 ((r.ext e1).ext e2).h
  rw [w_lists1] at h
  exact h.mono fun e w' ⟨v, h1, h2, h3⟩ => by
    obtain ⟨A, c, A', c', rfl, a1, a2⟩ := pair_open h2
    exact ⟨A, c, A', c', h1, a1, a2, Ext.trans (Ext.trans e1 e2) h3⟩
theorem row_L2 {W : World} {g n1 : Nat} (r : Row g n1 (n1 + 1) (n1 + 1 + 1) W) :
    Calls Try.prog 12 #[hfn g, .slice (some ⟨W.heap.size, 0, none⟩) 1 1, .slice none 0 0] (W.alloc (oneT n1))
      fun e w' => ∃ A c A' c', e = .returned (.tuple #[.agg #[.slice A 2 c, .slice A' 0 c'], .bool true]) ∧ SlB w' (.slice A' 0 c') [] ∧ Ext W w' := by
  have e1 := ext_alloc W (oneT n1)
  have x1 := one_part r.a
  have h := lists_any g 0 (by decide) _ _ [[97]] [] _ (by decide) (by decide) (small1 (by decide) rfl) (fun z hz => by cases hz) x1 (slX_nil _) (r.ext e1).h
  rw [w_lists2] at h
  exact h.mono fun e w' ⟨v, h1, h2, h3⟩ => by
    obtain ⟨A, c, A', c', rfl, a1, a2⟩ := pair_open h2
    exact ⟨A, c, A', c', h1, a2, Ext.trans e1 h3⟩
abbrev twoT (n m : Nat) : Obj := .cells #[.slice (some ⟨n, 0, none⟩) 1 1, .slice (some ⟨m, 0, none⟩) 1 1] 23
theorem row_L3 {W : World} {g n1 : Nat} (r : Row g n1 (n1 + 1) (n1 + 1 + 1) W) :
    Calls Try.prog 12 #[hfn g, .slice (some ⟨W.heap.size, 0, none⟩) 2 2, .slice (some ⟨W.heap.size + 1, 0, none⟩) 2 2] ((W.alloc (twoT n1 (n1 + 1))).alloc (twoT n1 (n1 + 1)))
      fun e w' => ∃ A c A' c', e = .returned (.tuple #[.agg #[.slice A 0 c, .slice A' 0 c'], .bool false]) ∧ Ext W w' := by
  have e1 := ext_alloc W (twoT n1 (n1 + 1))
  have e2 := ext_alloc (W.alloc (twoT n1 (n1 + 1))) (twoT n1 (n1 + 1))
  have x1 := (texts2 r.a r.b).below e2
  have x2 := texts2 (r.a.below e1) (r.b.below e1)
  rw [size_alloc] at x2
  have hz : ∀ z ∈ ([[97], [98]] : List (List UInt8)), z.length ≤ 1048576 := by decide
  have h := lists_any g 0 (by decide) _ _ [[97], [98]] [[97], [98]] _ (by decide) (by decide) hz hz x1 x2 ((r.ext e1).ext e2).h
  rw [w_lists3] at h
  exact h.mono fun e w' ⟨v, h1, h2, h3⟩ => by
    obtain ⟨A, c, A', c', rfl, a1, a2⟩ := pair_open h2
    exact ⟨A, c, A', c', h1, Ext.trans (Ext.trans e1 e2) h3⟩
abbrev thrT (n m k : Nat) : Obj := .cells #[.slice (some ⟨n, 0, none⟩) 1 1, .slice (some ⟨m, 0, none⟩) 1 1, .slice (some ⟨k, 0, none⟩) 1 1] 23
abbrev zz2 : Obj := .cells (bs [zer, zer].flatten).toArray 38 (0, 0)
theorem abc_small : ∀ z ∈ ([[97], [98], [99]] : List (List UInt8)), z.length ≤ 1048576 := by decide
theorem zz_32 : All32 [zer, zer] := fun d hd => by
  simp only [List.mem_cons, List.not_mem_nil, or_false] at hd
  rcases hd with rfl | rfl <;> rfl
theorem row_I {W : World} {g n1 : Nat} (r : Row g n1 (n1 + 1) (n1 + 1 + 1) W) :
    Calls Try.prog 21 #[hfn g, .slice (some ⟨W.heap.size, 0, none⟩) 3 3, .int .i64 1, .slice (some ⟨W.heap.size + 1, 0, none⟩) 1 1, .slice (some ⟨W.heap.size + 1 + 1, 0, none⟩) 2 2] (((W.alloc (thrT n1 (n1 + 1) (n1 + 1 + 1))).alloc (.cells #[.int .u8 120] 5 (1, 2))).alloc zz2)
      fun e w' => ∃ A c A' c', e = .returned (.tuple #[.agg #[.slice A 2 c, .slice A' 2 c'], .bool true]) ∧ SlB w' (.slice A 2 c) [0, 120] ∧ SlB w' (.slice A' 2 c') [0, 98] ∧ Ext W w' := by
  have e1 := ext_alloc W (thrT n1 (n1 + 1) (n1 + 1 + 1))
  have e2 := ext_alloc (W.alloc (thrT n1 (n1 + 1) (n1 + 1 + 1))) (.cells #[.int .u8 120] 5 (1, 2))
  have e3 := ext_alloc ((W.alloc (thrT n1 (n1 + 1) (n1 + 1 + 1))).alloc (.cells #[.int .u8 120] 5 (1, 2))) zz2
  have e13 := Ext.trans e1 (Ext.trans e2 e3)
  have x1 := (texts3 r.a r.b r.c).below (Ext.trans e2 e3)
  have s2 : SlB _ _ [120] := (slB_one (W.alloc (thrT n1 (n1 + 1) (n1 + 1 + 1))) 120 5 (1, 2)).below e3
  rw [size_alloc] at s2
  have s3 := slD_lit ((W.alloc (thrT n1 (n1 + 1) (n1 + 1 + 1))).alloc (.cells #[.int .u8 120] 5 (1, 2))) [zer, zer] 38 zz_32 (by decide)
  rw [size_alloc, size_alloc] at s3
  have h := included_any g 0 (by decide) _ [[97], [98], [99]] 1 _ [120] _ [zer, zer] _ (by decide) (by decide) x1 s2 s3 (r.ext e13).h (by decide) abc_small (by decide)
  rw [w_incl] at h
  exact h.mono fun e w' ⟨v, h1, h2, h3⟩ => by
    obtain ⟨A, c, A', c', rfl, a1, a2⟩ := pair_open h2
    exact ⟨A, c, A', c', h1, a1, a2, Ext.trans e13 h3⟩
theorem make2 (w : World) : (Instr.makeSlice 46 (.int .i64 2) (.int .i64 2)).run Try.prog w = .ok (.slice (some ⟨w.heap.size, 0, none⟩) 2 2) (w.alloc zz2) := by kernel_rfl
theorem row_C {W : World} {g n1 : Nat} (r : Row g n1 (n1 + 1) (n1 + 1 + 1) W) :
    Calls Try.prog 23 #[hfn g, .slice (some ⟨W.heap.size, 0, none⟩) 3 3, .int .i64 2, dg zer, .slice (some ⟨W.heap.size + 1, 0, none⟩) 2 2] ((W.alloc (thrT n1 (n1 + 1) (n1 + 1 + 1))).alloc zz2)
      fun e w' => ∃ A c A' c', e = .returned (.tuple #[.agg #[.slice A 0 c, .slice A' 0 c'], .bool false]) ∧ Ext W w' := by
  have e1 := ext_alloc W (thrT n1 (n1 + 1) (n1 + 1 + 1))
  have e3 := ext_alloc (W.alloc (thrT n1 (n1 + 1) (n1 + 1 + 1))) zz2
  have e13 := Ext.trans e1 e3
  have x1 := (texts3 r.a r.b r.c).below e3
  have s3 := slD_lit (W.alloc (thrT n1 (n1 + 1) (n1 + 1 + 1))) [zer, zer] 38 zz_32 (by decide)
  rw [size_alloc] at s3
  have h := consistent_any g 0 (by decide) _ [[97], [98], [99]] 2 zer zer_length _ [zer, zer] _ (by decide) (by decide) x1 s3 (r.ext e13).h (by decide) abc_small
  rw [w_cons] at h
  exact h.mono fun e w' ⟨v, h1, h2, h3⟩ => by
    obtain ⟨A, c, A', c', rfl, a1, a2⟩ := pair_open h2
    exact ⟨A, c, A', c', h1, Ext.trans e13 h3⟩
theorem row_L4 {W : World} {g g2 n1 : Nat} (r : Row g n1 (n1 + 1) (n1 + 1 + 1) W) (h2 : HvAt W g2 256) :
    Calls Try.prog 12 #[hfn g2, .slice (some ⟨W.heap.size, 0, none⟩) 1 1, .slice (some ⟨W.heap.size + 1, 0, none⟩) 1 1] ((W.alloc (oneT n1)).alloc (oneT (n1 + 1)))
      fun e w' => ∃ A c A' c', e = .returned (.tuple #[.agg #[.slice A 0 c, .slice A' 0 c'], .bool false]) ∧ Ext W w' := by
  have e1 := ext_alloc W (oneT n1)
  have e2 := ext_alloc (W.alloc (oneT n1)) (oneT (n1 + 1))
  have x1 := (one_part r.a).below e2
  have x2 := one_part (r.b.below e1)
  rw [size_alloc] at x2
  have h := lists_any g2 256 (by decide) _ _ [[97]] [[98]] _ (by decide) (by decide) (small1 (by decide) rfl) (small1 (by decide) rfl) x1 x2 (h2.below (Ext.trans e1 e2))
  rw [w_lists4] at h
  exact h.mono fun e w' ⟨v, h1, h2, h3⟩ => by
    obtain ⟨A, c, A', c', rfl, a1, a2⟩ := pair_open h2
    exact ⟨A, c, A', c', h1, Ext.trans (Ext.trans e1 e2) h3⟩
set_option maxHeartbeats 16000000 in
theorem wakes_any (w : World) : Calls Try.prog 20 #[] w fun e w' => e = .returned (.bool true) ∧ Below w.heap.size w w' := by
  have hh := hash_any 0 w
  have hmk := make2
  go_enter Try.func20, Try.ntmps20
  go_wp2_with fail
  refine hh.mono ?_; rintro e w1 ⟨rfl, hg1, b1⟩
  clear hh
  unfold hv
  obtain ⟨sa, sb, sc, e3⟩ := lits3 w1
  go_wp2_with fail
  generalize hW : World.alloc (World.alloc (World.alloc w1 _) _) _ = W
  have hz : W.heap.size = w1.heap.size + 1 + 1 + 1 := by rw [← hW, size_alloc, size_alloc, size_alloc]
  have hW2 : ((w1.alloc (.cells #[.int .u8 97] 5 (1, 2))).alloc (.cells #[.int .u8 98] 5 (1, 2))).alloc (.cells #[.int .u8 99] 5 (1, 2)) = W := hW
  rw [hW2] at sa sb sc e3
  have row : Row w.heap.size w1.heap.size (w1.heap.size + 1) (w1.heap.size + 1 + 1) W := ⟨hg1.below e3, sa, sb, sc⟩
  have bw : Below w.heap.size w W := Ext.trans b1 e3
  rw [← hz]
  clear hW hW2 sa sb sc e3 hg1 b1
  generalize w1.heap.size = n1 at *
  refine (row_L1 row).mono ?_; rintro e w2 ⟨A1, c1, A1', c1', rfl, s1, s1', x2⟩
  have row2 := row.ext x2
  have bw2 : Below w.heap.size w w2 := Below.trans bw (x2.mono bw.size)
  clear row bw x2 hz
  have e2 := ext_alloc w2 (.cells #[.slice A1 2 c1, .slice A1' 2 c1'] 30)
  have p2 : PR 30 (w2.alloc (.cells #[.slice A1 2 c1, .slice A1' 2 c1'] 30)) w2.heap.size _ _ := heap_alloc_new _ _
  have z2 := size_alloc w2 (.cells #[.slice A1 2 c1, .slice A1' 2 c1'] 30)
  replace s1 := s1.below e2
  replace s1' := s1'.below e2
  replace row2 := row2.ext e2
  replace bw2 := Below.trans bw2 (e2.mono bw2.size)
  clear e2
  go_wp2_with fail
  generalize w2.alloc (.cells #[.slice A1 2 c1, .slice A1' 2 c1'] 30) = V2 at *
  rw [← z2]
  refine (row_L2 row2).mono ?_; rintro e w3 ⟨A2, c2, A2', c2', rfl, s2', x3⟩
  have row3 := row2.ext x3
  have bw3 : Below w.heap.size w w3 := Below.trans bw2 (x3.mono bw2.size)
  replace s1 := s1.below x3
  replace s1' := s1'.below x3
  replace p2 := p2.below x3
  clear row2 bw2 x3
  have e3 := ext_alloc w3 (.cells #[.slice A2 2 c2, .slice A2' 0 c2'] 30)
  have p3 : PR 30 (w3.alloc (.cells #[.slice A2 2 c2, .slice A2' 0 c2'] 30)) w3.heap.size _ _ := heap_alloc_new _ _
  have z3 := size_alloc w3 (.cells #[.slice A2 2 c2, .slice A2' 0 c2'] 30)
  replace s1 := s1.below e3
  replace s1' := s1'.below e3
  replace p2 := p2.below e3
  replace s2' := s2'.below e3
  replace row3 := row3.ext e3
  replace bw3 := Below.trans bw3 (e3.mono bw3.size)
  clear e3 z2
  go_wp2_with fail
  generalize w3.alloc (.cells #[.slice A2 2 c2, .slice A2' 0 c2'] 30) = V3 at *
  rw [← z3]
  refine (row_L3 row3).mono ?_; rintro e w4 ⟨A3, c3, A3', c3', rfl, x4⟩
  have row4 := row3.ext x4
  have bw4 : Below w.heap.size w w4 := Below.trans bw3 (x4.mono bw3.size)
  replace s1 := s1.below x4
  replace s1' := s1'.below x4
  replace p2 := p2.below x4
  replace s2' := s2'.below x4
  replace p3 := p3.below x4
  clear row3 bw3 x4
  have e4 := ext_alloc w4 (.cells #[.slice A3 0 c3, .slice A3' 0 c3'] 30)
  have z4 := size_alloc w4 (.cells #[.slice A3 0 c3, .slice A3' 0 c3'] 30)
  replace s1 := s1.below e4
  replace s1' := s1'.below e4
  replace p2 := p2.below e4
  replace s2' := s2'.below e4
  replace p3 := p3.below e4
  replace row4 := row4.ext e4
  replace bw4 := Below.trans bw4 (e4.mono bw4.size)
  clear e4 z3
  go_wp2_with fail
  generalize w4.alloc (.cells #[.slice A3 0 c3, .slice A3' 0 c3'] 30) = V4 at *
  rw [← z4]
  refine (row_I row4).mono ?_; rintro e w5 ⟨A4, c4, A4', c4', rfl, s4, s4', x5⟩
  have row5 := row4.ext x5
  have bw5 : Below w.heap.size w w5 := Below.trans bw4 (x5.mono bw4.size)
  replace s1 := s1.below x5
  replace s1' := s1'.below x5
  replace p2 := p2.below x5
  replace s2' := s2'.below x5
  replace p3 := p3.below x5
  clear row4 bw4 x5
  have e5 := ext_alloc w5 (.cells #[.slice A4 2 c4, .slice A4' 2 c4'] 30)
  have p5 : PR 30 (w5.alloc (.cells #[.slice A4 2 c4, .slice A4' 2 c4'] 30)) w5.heap.size _ _ := heap_alloc_new _ _
  have z5 := size_alloc w5 (.cells #[.slice A4 2 c4, .slice A4' 2 c4'] 30)
  replace s1 := s1.below e5
  replace s1' := s1'.below e5
  replace p2 := p2.below e5
  replace s2' := s2'.below e5
  replace p3 := p3.below e5
  replace s4 := s4.below e5
  replace s4' := s4'.below e5
  replace row5 := row5.ext e5
  replace bw5 := Below.trans bw5 (e5.mono bw5.size)
  clear e5 z4
  go_wp2_with fail
  generalize w5.alloc (.cells #[.slice A4 2 c4, .slice A4' 2 c4'] 30) = V5 at *
  rw [← z5]
  refine (row_C row5).mono ?_; rintro e w6 ⟨A5, c5, A5', c5', rfl, x6⟩
  have row6 := row5.ext x6
  have bw6 : Below w.heap.size w w6 := Below.trans bw5 (x6.mono bw5.size)
  have e6 := Ext.trans x6 (ext_alloc w6 (.cells #[.slice A5 0 c5, .slice A5' 0 c5'] 30))
  have z6 := size_alloc w6 (.cells #[.slice A5 0 c5, .slice A5' 0 c5'] 30)
  have row6 := row5.ext e6
  replace bw6 := Below.trans bw5 (e6.mono bw5.size)
  replace s1 := s1.below e6
  replace s1' := s1'.below e6
  replace p2 := p2.below e6
  replace s2' := s2'.below e6
  replace p3 := p3.below e6
  replace s4 := s4.below e6
  replace s4' := s4'.below e6
  replace p5 := p5.below e6
  clear row5 bw5 x6 e6 z5
  go_wp2_with fail
  generalize w6.alloc (.cells #[.slice A5 0 c5, .slice A5' 0 c5'] 30) = V6 at *
  refine (hash_any 256 V6).mono ?_; rintro e w7 ⟨rfl, hg7, b7⟩
  have x7 : Ext V6 w7 := b7
  have row7 := row6.ext x7
  have bw7 : Below w.heap.size w w7 := Below.trans bw6 (x7.mono bw6.size)
  replace s1 := s1.below x7
  replace s1' := s1'.below x7
  replace p2 := p2.below x7
  replace s2' := s2'.below x7
  replace p3 := p3.below x7
  replace s4 := s4.below x7
  replace s4' := s4'.below x7
  replace p5 := p5.below x7
  clear row6 bw6 x7 z6 b7
  unfold hv
  go_wp2_with fail
  refine (row_L4 row7 hg7).mono ?_; rintro e w8 ⟨A6, c6, A6', c6', rfl, x8⟩
  have e8 := Ext.trans x8 (ext_alloc w8 (.cells #[.slice A6 0 c6, .slice A6' 0 c6'] 30))
  have row8 := row7.ext e8
  have bw8 : Below w.heap.size w _ := Below.trans bw7 (e8.mono bw7.size)
  replace s1 := s1.below e8
  replace s1' := s1'.below e8
  replace p2 := p2.below e8
  replace s2' := s2'.below e8
  replace p3 := p3.below e8
  replace s4 := s4.below e8
  replace s4' := s4'.below e8
  replace p5 := p5.below e8
  have k1 := conv_sl (P := Try.prog) (dst := 9) Try.underlying23 Try.underlying5 Try.underlying9 s1
  have k2 := conv_sl (P := Try.prog) (dst := 9) Try.underlying23 Try.underlying5 Try.underlying9 s1'
  have k3 := conv_sl (P := Try.prog) (dst := 9) Try.underlying23 Try.underlying5 Try.underlying9 s4
  have k4 := conv_sl (P := Try.prog) (dst := 9) Try.underlying23 Try.underlying5 Try.underlying9 s4'
  have c20 := p2.c0.1
  have c21 := p2.c1.1
  have c31 := p3.c1.1
  have c50 := p5.c0.1
  have c51 := p5.c1.1
  have l20 := p2.load rfl rfl
  have hm1 := may_any w.heap.size 0 _ _ [0, 97] [0, 98] _ (by decide) (by decide) (by decide) s1 s1' row8.h
  rw [w_may] at hm1
  clear row7 bw7 x8 e8
  go_wp2_with fail
  refine hm1.mono ?_; rintro e w9 ⟨rfl, b9⟩
  clear hm1 k1 k2 k3 k4 c20 c21 c31 c50 c51 l20
  replace bw8 := Below.trans bw8 (b9.mono bw8.size)
  have c20 := (p2.below b9).c0.1
  have c21 := (p2.below b9).c1.1
  have hm2 := may_nil _ _ [0, 97] [0, 98] _ (s1.below b9) (s1'.below b9)
  clear s1 s1' p2 p3 s2' s4 s4' p5 b9 row8
  go_wp2_with fail
  refine hm2.mono ?_; rintro e w10 ⟨rfl, b10⟩
  replace bw8 := Below.trans bw8 (b10.mono bw8.size)
  clear hm2 c20 c21
  go_wp2_with fail
  refine (hash_any 256 w10).mono ?_; rintro e w11 ⟨rfl, hg11, b11⟩
  replace bw8 := Below.trans bw8 (b11.mono bw8.size)
  have hr := root_any w10.heap.size 256 (by decide) (.slice none 0 0) [] w11 (by decide) (fun z hz => by cases hz) (slX_nil _) hg11
  rw [w_root] at hr
  unfold hv at hr ⊢
  go_wp2_with fail
  refine hr.mono ?_; rintro e w12 ⟨rfl, b12⟩
  replace bw8 := Below.trans bw8 (b12.mono bw8.size)
  have hsm := shaSum_any (.slice none 0 0) [] w12 (slB_nil _) (by decide)
  have hsl := sha_length []
  have qe := fun w' => arr_dg.eqlSelf (sha []) hsl w'
  generalize sha [] = sn at *
  clear hr
  go_wp2_with fail
  refine hsm.mono ?_; rintro e w13 ⟨rfl, b13⟩
  replace bw8 := Below.trans bw8 (b13.mono bw8.size)
  go_wp2_with fail
  go_ret
  exact ⟨rfl, bw8⟩
end Go.Proofs.Ytnpbapefjbfndaa
