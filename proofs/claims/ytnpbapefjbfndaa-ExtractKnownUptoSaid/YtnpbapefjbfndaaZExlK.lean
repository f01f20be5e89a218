/- The law ExtractKnown, walked. -/
import Derived.Test.YtnpbapefjbfndaaZExlM
import Derived.Test.YtnpbapefjbfndaaZExlN
import Derived.Test.YtnpbapefjbfndaaZExlA
set_option linter.unusedVariables false
set_option linter.unusedSimpArgs false
set_option maxRecDepth 10000
namespace Go.Proofs.Ytnpbapefjbfndaa
open Go.RowKit
attribute [local go_sem high] dg_cells guard_dg

theorem pair_none {w : World} {v : Value} (h : PairAt w v none) : ∃ A c A' c', v = .agg #[.slice A 0 c, .slice A' 0 c'] := by
  obtain ⟨A, c, A', c', rfl, _, _⟩ := pair_open h
  exact ⟨A, c, A', c', rfl⟩
abbrev NoPair (w : World) : Ending → World → Prop := fun e w' => ∃ A c A' c', e = .returned (.tuple #[.agg #[.slice A 0 c, .slice A' 0 c'], .bool false]) ∧ Ext w w'
theorem no_pair {f : FuncId} {args : Array Value} {w : World} (h : Calls Try.prog f args w fun e w' => ∃ v, e = .returned (.tuple #[v, .bool false]) ∧ PairAt w' v none ∧ Below w.heap.size w w') : Calls Try.prog f args w (NoPair w) :=
  h.mono fun e w' ⟨v, h1, h2, h3⟩ => by
    obtain ⟨A, c, A', c', rfl⟩ := pair_none h2
    exact ⟨A, c, A', c', h1, h3⟩
theorem no_pair' {f : FuncId} {args : Array Value} {w : World} {o : Option (List UInt8 × List UInt8)} (ho : o = none) (h : Calls Try.prog f args w fun e w' => ∃ v, e = .returned (.tuple #[v, .bool o.isSome]) ∧ PairAt w' v o ∧ Below w.heap.size w w') : Calls Try.prog f args w (NoPair w) := by
  subst ho; exact no_pair h
theorem row_lits (w : World) : SlX ((((w.alloc (.cells #[.int .u8 1] 5)).alloc (.cells #[.int .u8 2] 5)).alloc (.cells #[.int .u8 3] 5)).alloc (thrT w.heap.size (w.heap.size + 1) (w.heap.size + 1 + 1))) (.slice (some ⟨w.heap.size + 1 + 1 + 1, 0, none⟩) 3 3) l123 ∧
    Ext w ((((w.alloc (.cells #[.int .u8 1] 5)).alloc (.cells #[.int .u8 2] 5)).alloc (.cells #[.int .u8 3] 5)).alloc (thrT w.heap.size (w.heap.size + 1) (w.heap.size + 1 + 1))) := by
  have e1 := ext_alloc w (.cells #[.int .u8 1] 5)
  have e2 := ext_alloc (w.alloc (.cells #[.int .u8 1] 5)) (.cells #[.int .u8 2] 5)
  have e3 := ext_alloc ((w.alloc (.cells #[.int .u8 1] 5)).alloc (.cells #[.int .u8 2] 5)) (.cells #[.int .u8 3] 5)
  have s1 : SlB _ _ [1] := slB_one w 1 5 (0, 0)
  have s2 : SlB _ _ [2] := slB_one (w.alloc (.cells #[.int .u8 1] 5)) 2 5 (0, 0)
  have s3 : SlB _ _ [3] := slB_one ((w.alloc (.cells #[.int .u8 1] 5)).alloc (.cells #[.int .u8 2] 5)) 3 5 (0, 0)
  rw [size_alloc] at s2
  rw [size_alloc, size_alloc] at s3
  have h := texts3 (s1.below (Ext.trans e2 e3)) (s2.below e3) s3
  rw [size_alloc, size_alloc, size_alloc] at h
  exact ⟨h, Ext.trans e1 (Ext.trans e2 (Ext.trans e3 (ext_alloc _ _)))⟩
theorem slB_two {w : World} {A : Option Addr} {n c : Nat} {x y : UInt8} {l : List UInt8} (h : SlB w (.slice A n c) (x :: y :: l)) : ∃ ad, A = some ad ∧ w.cell? (ad.add 1) = some (.int .u8 (c8 y)) := by
  obtain ⟨A', c', e, _, _, _, hr⟩ := h
  injection e with e1 e2 e3
  subst e1
  cases A with
  | none => have := hr.none_; cases this
  | some ad => exact ⟨ad, rfl, hr.some_ 1 _ rfl⟩
theorem k_small : ∀ z ∈ l123, z.length ≤ 1048576 := by decide
theorem k_small2 : ∀ z ∈ ([[1], [2]] : List (List UInt8)), z.length ≤ 1048576 := by decide
theorem k_small3 : ∀ z ∈ ([[1], [3]] : List (List UInt8)), z.length ≤ 1048576 := by decide
theorem pair_oo {w : World} {v : Value} (h : PairAt w v (some (ndL one32 zer, ndL zer zer))) : ∃ A c A' c', v = .agg #[.slice A 65 c, .slice A' 65 c'] ∧ SlB w (.slice A 65 c) (ndL one32 zer) ∧ SlB w (.slice A' 65 c') (ndL zer zer) := pair_open h
theorem pair_qq {w : World} {v : Value} (h : PairAt w v (some ([0, 2], [0, 3]))) : ∃ A c A' c', v = .agg #[.slice A 2 c, .slice A' 2 c'] ∧ SlB w (.slice A 2 c) [0, 2] ∧ SlB w (.slice A' 2 c') [0, 3] := pair_open h
abbrev byT (b : Int) : Obj := .cells #[.int .u8 b] 5
theorem row_two (w : World) (x y : UInt8) : SlX (((w.alloc (byT (c8 x))).alloc (byT (c8 y))).alloc (twoT w.heap.size (w.heap.size + 1))) (.slice (some ⟨w.heap.size + 1 + 1, 0, none⟩) 2 2) [[x], [y]] ∧
    Ext w (((w.alloc (byT (c8 x))).alloc (byT (c8 y))).alloc (twoT w.heap.size (w.heap.size + 1))) := by
  have e1 := ext_alloc w (byT (c8 x))
  have e2 := ext_alloc (w.alloc (byT (c8 x))) (byT (c8 y))
  have s1 : SlB _ _ [x] := slB_one w x 5 (0, 0)
  have s2 : SlB _ _ [y] := slB_one (w.alloc (byT (c8 x))) y 5 (0, 0)
  rw [size_alloc] at s2
  have h := texts2 (s1.below e2) s2
  rw [size_alloc, size_alloc] at h
  exact ⟨h, Ext.trans e1 (Ext.trans e2 (ext_alloc _ _))⟩
theorem row_lits2 (w : World) :
    SlX ((((((w.alloc (byT 1)).alloc (byT 2)).alloc (twoT w.heap.size (w.heap.size + 1))).alloc (byT 1)).alloc (byT 3)).alloc (twoT (w.heap.size + 1 + 1 + 1) (w.heap.size + 1 + 1 + 1 + 1))) (.slice (some ⟨w.heap.size + 1 + 1, 0, none⟩) 2 2) [[1], [2]] ∧
    SlX ((((((w.alloc (byT 1)).alloc (byT 2)).alloc (twoT w.heap.size (w.heap.size + 1))).alloc (byT 1)).alloc (byT 3)).alloc (twoT (w.heap.size + 1 + 1 + 1) (w.heap.size + 1 + 1 + 1 + 1))) (.slice (some ⟨w.heap.size + 1 + 1 + 1 + 1 + 1, 0, none⟩) 2 2) [[1], [3]] ∧
    Ext w ((((((w.alloc (byT 1)).alloc (byT 2)).alloc (twoT w.heap.size (w.heap.size + 1))).alloc (byT 1)).alloc (byT 3)).alloc (twoT (w.heap.size + 1 + 1 + 1) (w.heap.size + 1 + 1 + 1 + 1))) := by
  obtain ⟨h1, e1⟩ := row_two w 1 2
  obtain ⟨h2, e2⟩ := row_two (((w.alloc (byT (c8 1))).alloc (byT (c8 2))).alloc (twoT w.heap.size (w.heap.size + 1))) 1 3
  have hz : (((w.alloc (byT (c8 1))).alloc (byT (c8 2))).alloc (twoT w.heap.size (w.heap.size + 1))).heap.size = w.heap.size + 1 + 1 + 1 := by rw [size_alloc, size_alloc, size_alloc]
  rw [hz] at h2 e2
  exact ⟨h1.below e2, h2, Ext.trans e1 e2⟩
theorem make1 (w : World) : (Instr.makeSlice 46 (.int .i64 1) (.int .i64 1)).run Try.prog w = .ok (.slice (some ⟨w.heap.size, 0, none⟩) 1 1) (w.alloc (.cells (bs zer).toArray 38 (0, 0))) := by kernel_rfl
theorem guard_zer (x y : Operand) (w : World) : (eqGuard .neq 38 x y (dg zer) (.agg #[.int .u8 0, .int .u8 0, .int .u8 0, .int .u8 0, .int .u8 0, .int .u8 0, .int .u8 0, .int .u8 0, .int .u8 0, .int .u8 0, .int .u8 0, .int .u8 0, .int .u8 0, .int .u8 0, .int .u8 0, .int .u8 0, .int .u8 0, .int .u8 0, .int .u8 0, .int .u8 0, .int .u8 0, .int .u8 0, .int .u8 0, .int .u8 0, .int .u8 0, .int .u8 0, .int .u8 0, .int .u8 0, .int .u8 0, .int .u8 0, .int .u8 0, .int .u8 0])).run Try.prog w = .ok () w := guard_dg .neq x y zer zer w
theorem neq_zer (w : World) : (binOp .neq 38 (dg zer) (.agg #[.int .u8 0, .int .u8 0, .int .u8 0, .int .u8 0, .int .u8 0, .int .u8 0, .int .u8 0, .int .u8 0, .int .u8 0, .int .u8 0, .int .u8 0, .int .u8 0, .int .u8 0, .int .u8 0, .int .u8 0, .int .u8 0, .int .u8 0, .int .u8 0, .int .u8 0, .int .u8 0, .int .u8 0, .int .u8 0, .int .u8 0, .int .u8 0, .int .u8 0, .int .u8 0, .int .u8 0, .int .u8 0, .int .u8 0, .int .u8 0, .int .u8 0, .int .u8 0])).run Try.prog w = .ok (.bool false) w := neq_dg_self zer zer_length w
set_option maxHeartbeats 16000000 in
theorem law_ExtractKnown (w : World) : Calls Try.prog 8 #[] w fun e w' => e = .returned (.bool true) ∧ Below w.heap.size w w' := by
  have hmk1 := make1
  have hmk2 := make2
  obtain ⟨hl, bw⟩ := row_lits w
  go_enter Try.func8, Try.ntmps8
  go_wp2_with fail
  generalize hW : World.alloc (World.alloc (World.alloc (World.alloc w _) _) _) _ = W
  have hW2 : (((w.alloc (.cells #[.int .u8 1] 5)).alloc (.cells #[.int .u8 2] 5)).alloc (.cells #[.int .u8 3] 5)).alloc (thrT w.heap.size (w.heap.size + 1) (w.heap.size + 1 + 1)) = W := hW
  rw [hW2] at hl bw
  clear hW hW2
  generalize w.heap.size + 1 + 1 + 1 = L at *
  refine (no_pair (lists_nil _ _ _)).mono ?_; rintro e w1 ⟨A1, c1, A1', c1', rfl, x1⟩
  have y1 := Ext.trans x1 (ext_alloc w1 (.cells #[.slice A1 0 c1, .slice A1' 0 c1'] 30))
  have p1 : PR 30 (w1.alloc (.cells #[.slice A1 0 c1, .slice A1' 0 c1'] 30)) w1.heap.size _ _ := heap_alloc_new _ _
  replace hl := hl.below y1
  replace bw := Ext.trans bw y1
  clear x1 y1
  go_wp2_with fail
  refine (no_pair (included_nil _ 0 _ _)).mono ?_; rintro e w2 ⟨A2, c2, A2', c2', rfl, x2⟩
  have y2 := Ext.trans x2 (ext_alloc w2 (.cells #[.slice A2 0 c2, .slice A2' 0 c2'] 30))
  replace hl := hl.below y2
  replace p1 := p1.below y2
  replace bw := Ext.trans bw y2
  clear x2 y2
  go_wp2_with fail
  refine (no_pair (consistent_nil _ 1 zer zer_length _ _)).mono ?_; rintro e w3 ⟨A3, c3, A3', c3', rfl, x3⟩
  have y3 := Ext.trans x3 (ext_alloc w3 (.cells #[.slice A3 0 c3, .slice A3' 0 c3'] 30))
  replace hl := hl.below y3
  replace p1 := p1.below y3
  replace bw := Ext.trans bw y3
  clear x3 y3
  have d0 := p1.c0.1
  go_wp2_with fail
  refine (root_nil _ _).mono ?_; rintro e w4 ⟨rfl, x4⟩
  replace hl := hl.below x4
  replace p1 := p1.below x4
  replace bw := Ext.trans bw x4
  have y4 := ext_alloc w4 (.cells #[.int .u8 1] 5)
  have s4 : SlB _ _ [1] := slB_one w4 1 5 (0, 0)
  replace hl := hl.below y4
  replace p1 := p1.below y4
  replace bw := Ext.trans bw y4
  have qz := neq_zer
  have qg := guard_zer
  clear x4 y4 d0
  have d0 := p1.c0.1
  go_wp2_with fail
  refine (may_nil _ _ [1] [] _ s4 (slB_nil _)).mono ?_; rintro e w5 ⟨rfl, x5⟩
  clear p1 d0 s4 qz qg
  replace hl := hl.below x5
  replace bw := Ext.trans bw x5
  clear x5
  go_wp2_with fail
  refine (hash_any 0 _).mono ?_; rintro e w6 ⟨rfl, hg, x6⟩
  replace hl := hl.below x6
  replace bw := Ext.trans bw x6
  clear x6
  generalize w5.heap.size = G at *
  unfold hv
  go_wp2_with fail
  refine (no_pair' (k_d [] []) (included_any G 0 (by decide) _ l123 3 _ [] _ [] _ (by decide) (by decide) hl (slB_nil _) (OwD.nil 0 _).sl hg (by decide) k_small (by decide))).mono ?_; rintro e w7 ⟨A7, c7, A7', c7', rfl, x7⟩
  have e7 := ext_alloc w7 (.cells #[.slice A7 0 c7, .slice A7' 0 c7'] 30)
  have z7 := size_alloc w7 (.cells #[.slice A7 0 c7, .slice A7' 0 c7'] 30)
  have y7 := Ext.trans x7 e7
  replace hl := hl.below y7
  replace hg := hg.below y7
  replace bw := Ext.trans bw y7
  clear x7 y7 e7
  go_wp2_with fail
  generalize w7.alloc (.cells #[.slice A7 0 c7, .slice A7' 0 c7'] 30) = V7 at *
  (try rw [← z7])
  clear z7
  refine (no_pair' (k_e [] []) (included_any G 0 (by decide) _ l123 (-1) _ [] _ [] _ (by decide) (by decide) hl (slB_nil _) (OwD.nil 0 _).sl hg (by decide) k_small (by decide))).mono ?_; rintro e w8 ⟨A8, c8, A8', c8', rfl, x8⟩
  have e8 := ext_alloc w8 (.cells #[.slice A8 0 c8, .slice A8' 0 c8'] 30)
  have z8 := size_alloc w8 (.cells #[.slice A8 0 c8, .slice A8' 0 c8'] 30)
  have y8 := Ext.trans x8 e8
  replace hl := hl.below y8
  replace hg := hg.below y8
  replace bw := Ext.trans bw y8
  clear x8 y8 e8
  generalize hV8 : w8.alloc (.cells #[.slice A8 0 c8, .slice A8' 0 c8'] 30) = V8 at *
  have s9 : SlB _ _ [9] := slB_one V8 9 5 (0, 0)
  have f1 := ext_alloc V8 (.cells #[.int .u8 9] 5)
  have f2 := ext_alloc (V8.alloc (.cells #[.int .u8 9] 5)) (.cells (bs zer).toArray 38 (0, 0))
  have sD := slD_one (V8.alloc (.cells #[.int .u8 9] 5)) zer 38 zer_length
  rw [size_alloc] at sD
  replace s9 := s9.below f2
  replace hl := hl.below (Ext.trans f1 f2)
  replace hg := hg.below (Ext.trans f1 f2)
  replace bw := Ext.trans bw (Ext.trans f1 f2)
  clear f1 f2
  go_wp2_with fail
  (try rw [hV8])
  rw [← z8]
  clear hV8 z8
  refine (no_pair' k_f (included_any G 0 (by decide) _ l123 0 _ [9] _ [zer] _ (by decide) (by decide) hl s9 sD hg (by decide) k_small (by decide))).mono ?_; rintro e w9 ⟨A9, c9, A9', c9', rfl, x9⟩
  have e9 := ext_alloc w9 (.cells #[.slice A9 0 c9, .slice A9' 0 c9'] 30)
  have z9 := size_alloc w9 (.cells #[.slice A9 0 c9, .slice A9' 0 c9'] 30)
  have y9 := Ext.trans x9 e9
  replace hl := hl.below y9
  replace hg := hg.below y9
  replace bw := Ext.trans bw y9
  clear x9 y9 e9
  clear s9 sD
  generalize hV9 : w9.alloc (.cells #[.slice A9 0 c9, .slice A9' 0 c9'] 30) = V9 at *
  have s9 : SlB _ _ [9] := slB_one V9 9 5 (0, 0)
  have f1 := ext_alloc V9 (.cells #[.int .u8 9] 5)
  have f2 := ext_alloc (V9.alloc (.cells #[.int .u8 9] 5)) (.cells (bs zer).toArray 38 (0, 0))
  have sD := slD_one (V9.alloc (.cells #[.int .u8 9] 5)) zer 38 zer_length
  rw [size_alloc] at sD
  replace s9 := s9.below f2
  replace hl := hl.below (Ext.trans f1 f2)
  replace hg := hg.below (Ext.trans f1 f2)
  replace bw := Ext.trans bw (Ext.trans f1 f2)
  clear f1 f2
  go_wp2_with fail
  (try rw [hV9])
  rw [← z9]
  clear hV9 z9
  refine (included_any G 0 (by decide) _ l123 2 _ [9] _ [zer] _ (by decide) (by decide) hl s9 sD hg (by decide) k_small (by decide)).mono ?_; rintro e w10 ⟨v10, rfl, hp10, x10⟩
  obtain ⟨A10, c10, A10', c10', rfl, sa10, sb10⟩ := pair_open hp10
  have e10 := ext_alloc w10 (.cells #[.slice A10 ((includedL 0 l123 2 [9] [zer]).getD ([], [])).1.length c10, .slice A10' ((includedL 0 l123 2 [9] [zer]).getD ([], [])).2.length c10'] 30)
  have z10 := size_alloc w10 (.cells #[.slice A10 ((includedL 0 l123 2 [9] [zer]).getD ([], [])).1.length c10, .slice A10' ((includedL 0 l123 2 [9] [zer]).getD ([], [])).2.length c10'] 30)
  have y10 := Ext.trans x10 e10
  replace hl := hl.below y10
  replace hg := hg.below y10
  replace bw := Ext.trans bw y10
  clear x10 y10 e10
  clear s9 sD sa10 sb10 hp10
  rw [k_g]
  go_wp2_with fail
  generalize w10.alloc (.cells #[.slice A10 ((includedL 0 l123 2 [9] [zer]).getD ([], [])).1.length c10, .slice A10' ((includedL 0 l123 2 [9] [zer]).getD ([], [])).2.length c10'] 30) = V10 at *
  (try rw [← z10])
  clear z10
  refine (no_pair' (k_i one32 [] firstP) (consistent_any G 0 (by decide) _ l123 0 one32 one32_length _ [] _ (by decide) (by decide) hl (OwD.nil 0 _).sl hg (by decide) k_small)).mono ?_; rintro e w11 ⟨A11, c11, A11', c11', rfl, x11⟩
  have e11 := ext_alloc w11 (.cells #[.slice A11 0 c11, .slice A11' 0 c11'] 30)
  have z11 := size_alloc w11 (.cells #[.slice A11 0 c11, .slice A11' 0 c11'] 30)
  have y11 := Ext.trans x11 e11
  replace hl := hl.below y11
  replace hg := hg.below y11
  replace bw := Ext.trans bw y11
  clear x11 y11 e11
  go_wp2_with fail
  generalize w11.alloc (.cells #[.slice A11 0 c11, .slice A11' 0 c11'] 30) = V11 at *
  (try rw [← z11])
  clear z11
  refine (no_pair' (k_j one32 [] firstP) (consistent_any G 0 (by decide) _ l123 4 one32 one32_length _ [] _ (by decide) (by decide) hl (OwD.nil 0 _).sl hg (by decide) k_small)).mono ?_; rintro e w12 ⟨A12, c12, A12', c12', rfl, x12⟩
  have e12 := ext_alloc w12 (.cells #[.slice A12 0 c12, .slice A12' 0 c12'] 30)
  have z12 := size_alloc w12 (.cells #[.slice A12 0 c12, .slice A12' 0 c12'] 30)
  have y12 := Ext.trans x12 e12
  replace hl := hl.below y12
  replace hg := hg.below y12
  replace bw := Ext.trans bw y12
  clear x12 y12 e12
  generalize hV12 : w12.alloc (.cells #[.slice A12 0 c12, .slice A12' 0 c12'] 30) = V12 at *
  have f1 := ext_alloc V12 zz2
  have sD := slD_lit V12 [zer, zer] 38 zz_32 (by decide)
  replace hl := hl.below f1
  replace hg := hg.below f1
  replace bw := Ext.trans bw f1
  clear f1
  go_wp2_with fail
  (try rw [hV12])
  rw [← z12]
  clear hV12 z12
  have hcc := consistent_any G 0 (by decide) _ l123 1 one32 one32_length _ [zer, zer] _ (by decide) (by decide) hl sD hg (by decide) k_small
  rw [k_k] at hcc
  refine (hcc).mono ?_; rintro e w13 ⟨v13, rfl, hp13, x13⟩
  obtain ⟨A13, c13, A13', c13', rfl, sa13, sb13⟩ := pair_oo hp13
  have e13 := ext_alloc w13 (.cells #[.slice A13 65 c13, .slice A13' 65 c13'] 30)
  have z13 := size_alloc w13 (.cells #[.slice A13 65 c13, .slice A13' 65 c13'] 30)
  have y13 := Ext.trans x13 e13
  have po : PR 30 (w13.alloc (.cells #[.slice A13 65 c13, .slice A13' 65 c13'] 30)) w13.heap.size _ _ := heap_alloc_new _ _
  replace sa13 := sa13.below e13
  replace sb13 := sb13.below e13
  replace hl := hl.below y13
  replace hg := hg.below y13
  replace bw := Ext.trans bw y13
  clear x13 y13 e13
  clear hcc sD hp13
  generalize hV13 : w13.alloc (.cells #[.slice A13 65 c13, .slice A13' 65 c13'] 30) = V13 at *
  obtain ⟨sx, sy, f1⟩ := row_lits2 V13
  replace hl := hl.below f1
  replace hg := hg.below f1
  replace po := po.below f1
  replace sa13 := sa13.below f1
  replace sb13 := sb13.below f1
  replace bw := Ext.trans bw f1
  clear f1
  go_wp2_with fail
  (try rw [hV13])
  rw [← z13]
  clear hV13 z13
  have hll := lists_any G 0 (by decide) _ _ [[1], [2]] [[1], [3]] _ (by decide) (by decide) k_small2 k_small3 sx sy hg
  rw [k_m] at hll
  refine (hll).mono ?_; rintro e w14 ⟨v14, rfl, hp14, x14⟩
  obtain ⟨A14, c14, A14', c14', rfl, sa14, sb14⟩ := pair_qq hp14
  have e14 := ext_alloc w14 (.cells #[.slice A14 2 c14, .slice A14' 2 c14'] 30)
  have z14 := size_alloc w14 (.cells #[.slice A14 2 c14, .slice A14' 2 c14'] 30)
  have y14 := Ext.trans x14 e14
  have pq : PR 30 (w14.alloc (.cells #[.slice A14 2 c14, .slice A14' 2 c14'] 30)) w14.heap.size _ _ := heap_alloc_new _ _
  replace sa14 := sa14.below e14
  replace sb14 := sb14.below e14
  replace hl := hl.below y14
  replace hg := hg.below y14
  replace po := po.below y14
  replace sa13 := sa13.below y14
  replace sb13 := sb13.below y14
  replace bw := Ext.trans bw y14
  clear x14 y14 e14
  clear hll sx sy hp14
  have hmm := may_any G 0 _ _ (ndL one32 zer) (ndL zer zer) _ (by decide) (by decide) (by decide) sa13 sb13 hg
  rw [k_may] at hmm
  have o0 := po.c0.1
  have o1 := po.c1.1
  go_wp2_with fail
  refine hmm.mono ?_; rintro e wz ⟨rfl, xz⟩
  clear hmm o0 o1
  replace hl := hl.below xz
  replace hg := hg.below xz
  replace po := po.below xz
  replace sa13 := sa13.below xz
  replace sb13 := sb13.below xz
  replace pq := pq.below xz
  replace sa14 := sa14.below xz
  replace sb14 := sb14.below xz
  replace bw := Ext.trans bw xz
  have o0 := po.c0.1
  have o1 := po.c1.1
  have q0 := pq.c0.1
  have q1 := pq.c1.1
  obtain ⟨ada, rfl, ca⟩ := slB_two sa13
  obtain ⟨adb, rfl, cb⟩ := slB_two sb13
  have ca : wz.cell? ⟨ada.block, ada.off + 1, none⟩ = some (.int .u8 1) := ca
  have cb : wz.cell? ⟨adb.block, adb.off + 1, none⟩ = some (.int .u8 0) := cb
  have ksa := conv_sl (P := Try.prog) (dst := 9) Try.underlying23 Try.underlying5 Try.underlying9 sa14
  have ksb := conv_sl (P := Try.prog) (dst := 9) Try.underlying23 Try.underlying5 Try.underlying9 sb14
  clear hl hg po pq sa13 sb13 sa14 sb14 xz
  go_wp2_with fail
  refine (wakes_any _).mono ?_; rintro e wy ⟨rfl, xy⟩
  replace bw := Ext.trans bw xy
  go_wp2_with fail
  go_ret
  exact ⟨rfl, bw⟩
end Go.Proofs.Ytnpbapefjbfndaa
