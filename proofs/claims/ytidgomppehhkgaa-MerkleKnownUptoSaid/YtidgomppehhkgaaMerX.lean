/- The chapter's rows of the law on trees (walk). -/
import Derived.Test.YtidgomppehhkgaaMerV
import Derived.Lib.SlBytesConst
set_option linter.unusedVariables false
set_option linter.unusedSimpArgs false
namespace Go.Proofs.Ytidgomppehhkgaa
open Go.RowKit
attribute [local go_sem high] dg_cells guard_dg rs_l rs_lh rs_lhm rs_h rs_hm rs_all

theorem conv_const (w : World) (C : Array Value) (n c g : Nat) (hg : g = w.heap.size) : (convert 41 41 (.slice (some ⟨g, 0, none⟩) n c)).run Try.prog (w.alloc (.cells C 5)) = .ok (.slice (some ⟨g, 0, none⟩) n c) (w.alloc (.cells C 5 (C.size, C.size + 1))) := by
  subst hg
  exact Lib.run_convert_bytes_const (P := Try.prog) w 41 5 C n c Try.underlying41 Try.underlying5
attribute [local go_sem high] conv_const
theorem ab_ne : (leafL [97] == leafL [98]) = false := by decide +kernel
set_option maxRecDepth 10000 in
set_option maxHeartbeats 4000000 in
theorem wakes_any (w : World) : Calls Try.prog 16 #[] w fun e w' => e = .returned (.bool true) ∧ Below w.heap.size w w' := by
  have kc := fun (w : World) (C : Array Value) (n c : Nat) => Lib.run_convert_bytes_const (P := Try.prog) w 41 5 C n c Try.underlying41 Try.underlying5
  have hab := ab_ne
  have la := leafL_length [97]; have lb := leafL_length [98]; have lc := leafL_length [99]
  have hs1 := fun v w' h => shaSum_any v [0, 97] w' h (by decide)
  have hsa : sha [0, 97] = leafL [97] := rfl
  rw [hsa] at hs1
  have ca := fun v w' h => leaf_any v [97] w' h (by decide)
  have cb := fun v w' h => leaf_any v [98] w' h (by decide)
  have cc := fun v w' h => leaf_any v [99] w' h (by decide)
  clear hsa
  generalize leafL [97] = a at *
  generalize leafL [98] = b at *
  generalize leafL [99] = c at *
  go_enter Try.func16, Try.ntmps16
  go_wp2_with fail
  refine (ca _ _ (slB_lit _ [97] _ _ (by decide))).mono ?_; rintro e w1 ⟨rfl, b1⟩
  go_wp2_with fail
  refine (cb _ _ (slB_lit _ [98] _ _ (by decide))).mono ?_; rintro e w2 ⟨rfl, b2⟩
  go_wp2_with fail
  refine (cc _ _ (slB_lit _ [99] _ _ (by decide))).mono ?_; rintro e w3 ⟨rfl, b3⟩
  have bw3 : Ext w w3 := Ext.trans (ext_alloc _ _) (Ext.trans b1 (Ext.trans (ext_alloc _ _) (Ext.trans b2 (Ext.trans (ext_alloc _ _) b3))))
  clear b1 b2 b3 ca cb cc kc
  go_wp2_with ((with_reducible refine at_store ?_); refine stop_here ?_)
  unfold Stop
  generalize hW : World.alloc (World.alloc (World.alloc w3 _) _) _ = W
  obtain ⟨h1, h2, h3, bw, z⟩ := alloc3 hW
  have rA : RowT 25 W w3.heap.size zer := h1
  have rB : RowT 25 W (w3.heap.size + 1) zer := h2
  have rC : RowT 25 W (w3.heap.size + 1 + 1) zer := h3
  have rA1 := rA.setRow a
  have rB1 := rB.other (D := w3.heap.size) (by omega) (bs a).toArray
  have rC1 := rC.other (D := w3.heap.size) (by omega) (bs a).toArray
  have rA2 := rA1.other (D := w3.heap.size + 1) (by omega) (bs b).toArray
  have rB2 := rB1.setRow b
  have rC2 := rC1.other (D := w3.heap.size + 1) (by omega) (bs b).toArray
  have rA3 := rA2.other (D := w3.heap.size + 1 + 1) (by omega) (bs c).toArray
  have rB3 := rB2.other (D := w3.heap.size + 1 + 1) (by omega) (bs c).toArray
  have rC3 := rC2.setRow c
  have bz := below_setRow (below_setRow (below_setRow (Below.trans bw3 (bw.mono bw3.size)) (show w.heap.size ≤ w3.heap.size from bw3.size) (bs a).toArray) (show w.heap.size ≤ w3.heap.size + 1 by have := bw3.size; omega) (bs b).toArray) (show w.heap.size ≤ w3.heap.size + 1 + 1 by have := bw3.size; omega) (bs c).toArray
  clear h1 h2 h3 bw hW
  refine arr_dg.storeL rA zer_length rfl la _ _ rfl rfl rfl ?_
  refine arr_dg.storeL rB1 zer_length rfl lb _ _ rfl rfl rfl ?_
  refine arr_dg.storeL rC2 zer_length rfl lc _ _ rfl rfl rfl ?_
  generalize ((W.setRow w3.heap.size (bs a).toArray).setRow (w3.heap.size + 1) (bs b).toArray).setRow (w3.heap.size + 1 + 1) (bs c).toArray = W3 at *
  clear rA rB rC rA1 rB1 rC1 rA2 rB2 rC2 z
  generalize hB : w3.heap.size = B at *
  clear hB
  have hd3 : All32 [a, b, c] := by
    intro d hd
    simp only [List.mem_cons, List.not_mem_nil, or_false] at hd
    rcases hd with rfl | rfl | rfl <;> assumption
  go_wp2_with (first
    | ((with_reducible refine at_bs ?_); refine stop_here ?_)
    | ((with_reducible refine at_load ?_); first | refine arr_dg.loadL rA3 (by rfl) la _ rfl rfl ?_ | refine arr_dg.loadL rB3 (by rfl) lb _ rfl rfl ?_ | refine arr_dg.loadL rC3 (by rfl) lc _ rfl rfl ?_)
    | fail)
  unfold Stop
  refine wpl_bDs rfl [a, b, c] hd3 (by simp) (by simp) _ 3 rfl rfl (by rw [Array.toList_map]; rfl) ?_
  have hl : SlD _ (.slice (some ⟨W3.heap.size, 0, none⟩) 3 3) [a, b, c] := slD_lit W3 [a, b, c] 25 hd3 (by simp)
  have e1 := ext_alloc W3 (.cells (bs [a, b, c].flatten).toArray 25 (0, 0))
  have bw4 := Below.trans bz (e1.mono bz.size)
  have rA4 := rA3.below e1
  have rB4 := rB3.below e1
  have rC4 := rC3.below e1
  generalize hg : W3.heap.size = g at *
  generalize hW4 : W3.alloc (.cells (bs [a, b, c].flatten).toArray 25 (0, 0)) = W4 at *
  clear hg hW4 rA3 rB3 rC3 e1 bz
  have hsu := fun v w' h => sub_any v [a, b, c] 1 3 w' (by simp) h
  have hsv := fun v w' h => sub_any v [a, b, c] 1 1 w' (by simp) h
  rw [show subL [a, b, c] 1 3 = nodeL b c from rootL_2 b c, show subE [a, b, c] 1 3 = 0 from rfl] at hsu
  rw [show subL [a, b, c] 1 1 = zer from rfl, show subE [a, b, c] 1 1 = 1 from rfl] at hsv
  have hlv := fun v w' h => levels_any v [a, b, c] w' h (by simp)
  rw [lvls_3] at hlv
  have hbc := nodeL_length b c
  go_wp2_with fail
  (with_reducible refine (hsu _ _ hl).mono ?_); rintro e w5 ⟨rfl, b5⟩
  have e6 := ext_alloc w5 (.cells (bs (nodeL b c)).toArray 25 (0, 0))
  have rX : RowT 25 (w5.alloc (.cells (bs (nodeL b c)).toArray 25 (0, 0))) w5.heap.size (nodeL b c) := heap_alloc_new _ _
  have b6 := Ext.trans b5 e6
  have hl6 := hl.below b6
  have rA6 := rA4.below b6
  have rB6 := rB4.below b6
  have rC6 := rC4.below b6
  have bw6 := Below.trans bw4 (b6.mono bw4.size)
  clear e6 b5 b6 hl rA4 rB4 rC4 bw4 hsu
  go_wp2_with ((with_reducible refine at_store ?_); refine arr_dg.store_newL zer_length rfl hbc _ _ rfl rfl rfl ?_)
  generalize hX : w5.heap.size = X at *
  generalize hW6 : w5.alloc (.cells (bs (nodeL b c)).toArray 25 (0, 0)) = W6 at *
  clear hX hW6
  (with_reducible refine (hsv _ _ hl6).mono ?_); rintro e w7 ⟨rfl, b7⟩
  have b8 := Ext.trans b7 (ext_alloc w7 (.cells (bs zer).toArray 25 (0, 0)))
  have hl8 := hl6.below b8
  have rA8 := rA6.below b8
  have rB8 := rB6.below b8
  have rC8 := rC6.below b8
  have rX8 := rX.below b8
  have bw8 := Below.trans bw6 (b8.mono bw6.size)
  clear b7 b8 hl6 rA6 rB6 rC6 bw6 hsv rX
  go_wp2_with ((with_reducible refine at_store ?_); refine arr_dg.store_newL zer_length rfl zer_length _ _ rfl rfl rfl ?_)
  generalize hX : w7.heap.size = Y at *
  generalize hW8 : w7.alloc (.cells (bs zer).toArray 25 (0, 0)) = W8 at *
  clear hX hW8
  refine (hlv _ _ hl8).mono ?_; rintro e w9 ⟨v9, vs9, rfl, hol, hrw, b9⟩
  have hl9 := hl8.below b9
  have rA9 := rA8.below b9
  have rB9 := rB8.below b9
  have rC9 := rC8.below b9
  have rX9 := rX8.below b9
  have bw9 := Below.trans bw8 (b9.mono bw8.size)
  clear b9 hl8 rA8 rB8 rC8 rX8 bw8 hlv
  have hvl := hrw.len
  obtain ⟨v1, hv1, ho1, _⟩ := hrw.get (i := 1) (by simp)
  simp only [List.length_cons, List.length_nil] at hvl
  obtain ⟨⟨A1, c1, rfl, _⟩, _⟩ := ho1.sl
  obtain ⟨g9, c9, rfl, _, _, hr9⟩ := hol.some (by rw [hvl]; decide)
  have hcell := hr9 1 _ hv1
  rw [hvl]
  clear hr9 hol ho1 hv1 hvl hrw
  simp only [List.getD_cons_succ, List.getD_cons_zero, List.length_cons, List.length_nil] at hcell
  go_wp2_with fail
  have q1 := eql_dg_self a la
  have q2 := eql_dg_self (sha []) (sha_length [])
  have q3 := eql_dg_self (nodeL (nodeL a b) c) (nodeL_length _ _)
  have q4 := eql_dg_self (nodeL b c) hbc
  have q5 := neq_dg a b la lb
  rw [hab] at q5
  have cr0 := fun w' => root_zero (.slice none 0 0) w' (slD_nil w')
  rw [rootL_nil] at cr0
  have cs0 := fun w' => shaSum_any (.slice none 0 0) [] w' (sl_nil w') (by decide)
  have cr1 := fun w' h => root_any 1 (.slice (some ⟨g, 0, none⟩) 1 3) [a] w' (by simp) (by decide) h
  have cr3 := fun w' h => root_any 3 (.slice (some ⟨g, 0, none⟩) 3 3) [a, b, c] w' (by simp) (by decide) h
  rw [rootL_one] at cr1
  rw [rootL_3] at cr3
  have hl1 := hl9.slice 0 1 (by omega) (by simp)
  rw [slA_zero] at hl1
  have cn1 := fun w' => node_any a b la lb w'
  have cn2 := fun w' => node_any (nodeL a b) c (nodeL_length _ _) lc w'
  have cn3 := fun w' => node_any b c lb lc w'
  generalize sha [] = s0 at *
  generalize nodeL (nodeL a b) c = nabc at *
  generalize nodeL a b = nab at *
  generalize nodeL b c = nbc at *
  have hS : Below w9.heap.size w9 w9.drew := (Below.refl _ _).drew
  have hS0 := hS
  have s2 : SlB (w9.alloc (.cells (bs [0, 97]).toArray 5 (2, 3))).drew (.slice (some ⟨w9.heap.size, 0, none⟩) 2 2) [0, 97] := slB_lit w9.drew [0, 97] 5 (2, 3) (by decide)
  have kc : (convert 41 41 (.slice (some ⟨w9.heap.size, 0, none⟩) 2 2)).run Try.prog (w9.alloc (.cells #[.int .u8 0, .int .u8 97] 5)).drew = .ok (.slice (some ⟨w9.heap.size, 0, none⟩) 2 2) (w9.alloc (.cells (bs [0, 97]).toArray 5 (2, 3))).drew := conv_const w9.drew #[.int .u8 0, .int .u8 97] 2 2 w9.heap.size rfl
  refine wp_region_S (fun w' => Below w9.heap.size w9 w') (by kernel_rfl) ?_
  refine wpAnyS_take (i := 0) (v := ?_) hS (some 35) rfl rfl (by kernel_rfl) (by kernel_rfl) (by kernel_rfl) (fun _ _ _ h => h) ?_ ?_
  rotate_left 1
  · (refine Or.inl ⟨by rfl, ?_⟩; intro w' hw'; (refine arr_dg.ex (rA9.below hw') la (.tmp 1) ?_ ?_ <;> rfl))
  try simp only [Act.put, List.setIfInBounds_toArray, List.set_cons_zero, List.set_cons_succ]
  refine wpAnyS_one (i := 1) rfl (by kernel_rfl) (by rfl) (fun K hK => ?_)
  go_simp
  have hb := hS.alloc (Nat.le_refl _) (.cells (bs [0, 97]).toArray 5 (0, 0))
  refine hK.out _ _ hb ?_
  replace hS := hb
  clear hK K hb
  try simp only [Act.put, List.setIfInBounds_toArray, List.set_cons_zero, List.set_cons_succ]
  refine wpAnyS_one (i := 2) rfl (by kernel_rfl) (by rfl) (fun K hK => ?_)
  go_simp
  have hb := hS0.alloc (Nat.le_refl _) (.cells (bs [0, 97]).toArray 5 (2, 3))
  refine hK.out _ _ hb ?_
  replace hS := hb
  clear hK K hb
  try simp only [Act.put, List.setIfInBounds_toArray, List.set_cons_zero, List.set_cons_succ]
  refine wpAnyS_one (i := 3) rfl (by kernel_rfl) (by rfl) (fun K hK => ?_)
  go_simp
  refine (hs1 _ _ s2).mono ?_; rintro e w10 ⟨rfl, b10⟩
  have hb := Below.trans hS (b10.mono hS.size)
  refine hK.out _ _ hb ?_
  replace hS := hb
  clear hK K hb
  try simp only [Act.put, List.setIfInBounds_toArray, List.set_cons_zero, List.set_cons_succ]
  refine wpAnyS_take (i := 4) (v := ?_) hS (some 39) rfl rfl (by kernel_rfl) (by kernel_rfl) (by kernel_rfl) (fun _ _ _ h => h) ?_ ?_
  rotate_left 1
  · (refine Or.inl ⟨by rfl, ?_⟩; intro w' hw'; (try go_simp); (try rfl); done)
  try simp only [Act.put, List.setIfInBounds_toArray, List.set_cons_zero, List.set_cons_succ]
  refine wpAnyS_take (i := 5) (v := ?_) hS (some 40) rfl rfl (by kernel_rfl) (by kernel_rfl) (by kernel_rfl) (fun _ _ _ h => h) ?_ ?_
  rotate_left 1
  · (refine Or.inl ⟨by rfl, ?_⟩; intro w' hw'; (try go_simp); (try rfl); done)
  try simp only [Act.put, List.setIfInBounds_toArray, List.set_cons_zero, List.set_cons_succ]
  refine wpAnyS_one (i := 6) rfl (by kernel_rfl) (by rfl) (fun K hK => ?_)
  go_simp
  (with_reducible refine (cr0 _).mono ?_); rintro e w10 ⟨rfl, b10⟩
  have hb := Below.trans hS (b10.mono hS.size)
  refine hK.out _ _ hb ?_
  replace hS := hb
  clear hK K hb
  try simp only [Act.put, List.setIfInBounds_toArray, List.set_cons_zero, List.set_cons_succ]
  refine wpAnyS_one (i := 7) rfl (by kernel_rfl) (by rfl) (fun K hK => ?_)
  go_simp
  (with_reducible refine (cs0 _).mono ?_); rintro e w10 ⟨rfl, b10⟩
  have hb := Below.trans hS (b10.mono hS.size)
  refine hK.out _ _ hb ?_
  replace hS := hb
  clear hK K hb
  try simp only [Act.put, List.setIfInBounds_toArray, List.set_cons_zero, List.set_cons_succ]
  refine wpAnyS_take (i := 8) (v := ?_) hS (some 43) rfl rfl (by kernel_rfl) (by kernel_rfl) (by kernel_rfl) (fun _ _ _ h => h) ?_ ?_
  rotate_left 1
  · (refine Or.inl ⟨by rfl, ?_⟩; intro w' hw'; (try go_simp); (try rfl); done)
  try simp only [Act.put, List.setIfInBounds_toArray, List.set_cons_zero, List.set_cons_succ]
  refine wpAnyS_take (i := 9) (v := ?_) hS (some 44) rfl rfl (by kernel_rfl) (by kernel_rfl) (by kernel_rfl) (fun _ _ _ h => h) ?_ ?_
  rotate_left 1
  · (refine Or.inl ⟨by rfl, ?_⟩; intro w' hw'; (try go_simp); (try rfl); done)
  try simp only [Act.put, List.setIfInBounds_toArray, List.set_cons_zero, List.set_cons_succ]
  refine wpAnyS_take (i := 10) (v := ?_) hS (some 45) rfl rfl (by kernel_rfl) (by kernel_rfl) (by kernel_rfl) (fun _ _ _ h => h) ?_ ?_
  rotate_left 1
  · (refine Or.inl ⟨by rfl, ?_⟩; intro w' hw'; (try go_simp); (try rfl); done)
  try simp only [Act.put, List.setIfInBounds_toArray, List.set_cons_zero, List.set_cons_succ]
  refine wpAnyS_take (i := 11) (v := ?_) hS (some 46) rfl rfl (by kernel_rfl) (by kernel_rfl) (by kernel_rfl) (fun _ _ _ h => h) ?_ ?_
  rotate_left 1
  · (refine Or.inl ⟨by rfl, ?_⟩; intro w' hw'; (try go_simp); (try rfl); done)
  try simp only [Act.put, List.setIfInBounds_toArray, List.set_cons_zero, List.set_cons_succ]
  refine wpAnyS_take (i := 12) (v := ?_) hS (some 47) rfl rfl (by kernel_rfl) (by kernel_rfl) (by kernel_rfl) (fun _ _ _ h => h) ?_ ?_
  rotate_left 1
  · (refine Or.inl ⟨by rfl, ?_⟩; intro w' hw'; (try go_simp); (try rfl); done)
  try simp only [Act.put, List.setIfInBounds_toArray, List.set_cons_zero, List.set_cons_succ]
  refine wpAnyS_take (i := 14) (v := ?_) hS (some 49) rfl rfl (by kernel_rfl) (by kernel_rfl) (by kernel_rfl) (fun _ _ _ h => h) ?_ ?_
  rotate_left 1
  · (refine Or.inl ⟨by rfl, ?_⟩; intro w' hw'; (refine arr_dg.ex (rA9.below hw') la (.tmp 1) ?_ ?_ <;> rfl))
  try simp only [Act.put, List.setIfInBounds_toArray, List.set_cons_zero, List.set_cons_succ]
  refine wpAnyS_one (i := 13) rfl (by kernel_rfl) (by rfl) (fun K hK => ?_)
  go_simp
  (with_reducible refine (cr1 _ (hl1.below hS)).mono ?_); rintro e w10 ⟨rfl, b10⟩
  have hb := Below.trans hS (b10.mono hS.size)
  refine hK.out _ _ hb ?_
  replace hS := hb
  clear hK K hb
  try simp only [Act.put, List.setIfInBounds_toArray, List.set_cons_zero, List.set_cons_succ]
  refine wpAnyS_take (i := 15) (v := ?_) hS (some 50) rfl rfl (by kernel_rfl) (by kernel_rfl) (by kernel_rfl) (fun _ _ _ h => h) ?_ ?_
  rotate_left 1
  · (refine Or.inl ⟨by rfl, ?_⟩; intro w' hw'; (try go_simp); (try rfl); done)
  try simp only [Act.put, List.setIfInBounds_toArray, List.set_cons_zero, List.set_cons_succ]
  refine wpAnyS_take (i := 16) (v := ?_) hS (some 51) rfl rfl (by kernel_rfl) (by kernel_rfl) (by kernel_rfl) (fun _ _ _ h => h) ?_ ?_
  rotate_left 1
  · (refine Or.inl ⟨by rfl, ?_⟩; intro w' hw'; (try go_simp); (try rfl); done)
  try simp only [Act.put, List.setIfInBounds_toArray, List.set_cons_zero, List.set_cons_succ]
  refine wpAnyS_take (i := 17) (v := ?_) hS (some 52) rfl rfl (by kernel_rfl) (by kernel_rfl) (by kernel_rfl) (fun _ _ _ h => h) ?_ ?_
  rotate_left 1
  · (refine Or.inl ⟨by rfl, ?_⟩; intro w' hw'; (try go_simp); (try rfl); done)
  try simp only [Act.put, List.setIfInBounds_toArray, List.set_cons_zero, List.set_cons_succ]
  refine wpAnyS_take (i := 18) (v := ?_) hS (some 53) rfl rfl (by kernel_rfl) (by kernel_rfl) (by kernel_rfl) (fun _ _ _ h => h) ?_ ?_
  rotate_left 1
  · (refine Or.inl ⟨by rfl, ?_⟩; intro w' hw'; (try go_simp); (try rfl); done)
  try simp only [Act.put, List.setIfInBounds_toArray, List.set_cons_zero, List.set_cons_succ]
  refine wpAnyS_take (i := 20) (v := ?_) hS (some 55) rfl rfl (by kernel_rfl) (by kernel_rfl) (by kernel_rfl) (fun _ _ _ h => h) ?_ ?_
  rotate_left 1
  · (refine Or.inl ⟨by rfl, ?_⟩; intro w' hw'; (refine arr_dg.ex (rA9.below hw') la (.tmp 1) ?_ ?_ <;> rfl))
  try simp only [Act.put, List.setIfInBounds_toArray, List.set_cons_zero, List.set_cons_succ]
  refine wpAnyS_take (i := 21) (v := ?_) hS (some 56) rfl rfl (by kernel_rfl) (by kernel_rfl) (by kernel_rfl) (fun _ _ _ h => h) ?_ ?_
  rotate_left 1
  · (refine Or.inl ⟨by rfl, ?_⟩; intro w' hw'; (refine arr_dg.ex (rB9.below hw') lb (.tmp 2) ?_ ?_ <;> rfl))
  try simp only [Act.put, List.setIfInBounds_toArray, List.set_cons_zero, List.set_cons_succ]
  refine wpAnyS_take (i := 23) (v := ?_) hS (some 58) rfl rfl (by kernel_rfl) (by kernel_rfl) (by kernel_rfl) (fun _ _ _ h => h) ?_ ?_
  rotate_left 1
  · (refine Or.inl ⟨by rfl, ?_⟩; intro w' hw'; (refine arr_dg.ex (rC9.below hw') lc (.tmp 3) ?_ ?_ <;> rfl))
  try simp only [Act.put, List.setIfInBounds_toArray, List.set_cons_zero, List.set_cons_succ]
  refine wpAnyS_one (i := 19) rfl (by kernel_rfl) (by rfl) (fun K hK => ?_)
  go_simp
  (with_reducible refine (cr3 _ (hl9.below hS)).mono ?_); rintro e w10 ⟨rfl, b10⟩
  have hb := Below.trans hS (b10.mono hS.size)
  refine hK.out _ _ hb ?_
  replace hS := hb
  clear hK K hb
  try simp only [Act.put, List.setIfInBounds_toArray, List.set_cons_zero, List.set_cons_succ]
  refine wpAnyS_one (i := 22) rfl (by kernel_rfl) (by rfl) (fun K hK => ?_)
  go_simp
  (with_reducible refine (cn1 _).mono ?_); rintro e w10 ⟨rfl, b10⟩
  have hb := Below.trans hS (b10.mono hS.size)
  refine hK.out _ _ hb ?_
  replace hS := hb
  clear hK K hb
  try simp only [Act.put, List.setIfInBounds_toArray, List.set_cons_zero, List.set_cons_succ]
  refine wpAnyS_one (i := 24) rfl (by kernel_rfl) (by rfl) (fun K hK => ?_)
  go_simp
  (with_reducible refine (cn2 _).mono ?_); rintro e w10 ⟨rfl, b10⟩
  have hb := Below.trans hS (b10.mono hS.size)
  refine hK.out _ _ hb ?_
  replace hS := hb
  clear hK K hb
  try simp only [Act.put, List.setIfInBounds_toArray, List.set_cons_zero, List.set_cons_succ]
  refine wpAnyS_take (i := 25) (v := ?_) hS (some 60) rfl rfl (by kernel_rfl) (by kernel_rfl) (by kernel_rfl) (fun _ _ _ h => h) ?_ ?_
  rotate_left 1
  · (refine Or.inl ⟨by rfl, ?_⟩; intro w' hw'; (try go_simp); (try rfl); done)
  try simp only [Act.put, List.setIfInBounds_toArray, List.set_cons_zero, List.set_cons_succ]
  refine wpAnyS_take (i := 26) (v := ?_) hS (some 61) rfl rfl (by kernel_rfl) (by kernel_rfl) (by kernel_rfl) (fun _ _ _ h => h) ?_ ?_
  rotate_left 1
  · (refine Or.inl ⟨by rfl, ?_⟩; intro w' hw'; (try go_simp); (try rfl); done)
  try simp only [Act.put, List.setIfInBounds_toArray, List.set_cons_zero, List.set_cons_succ]
  refine wpAnyS_take (i := 27) (v := ?_) hS (some 62) rfl rfl (by kernel_rfl) (by kernel_rfl) (by kernel_rfl) (fun _ _ _ h => h) ?_ ?_
  rotate_left 1
  · (refine Or.inl ⟨by rfl, ?_⟩; intro w' hw'; (try go_simp); (try rfl); done)
  try simp only [Act.put, List.setIfInBounds_toArray, List.set_cons_zero, List.set_cons_succ]
  refine wpAnyS_take (i := 28) (v := ?_) hS (some 63) rfl rfl (by kernel_rfl) (by kernel_rfl) (by kernel_rfl) (fun _ _ _ h => h) ?_ ?_
  rotate_left 1
  · (refine Or.inl ⟨by rfl, ?_⟩; intro w' hw'; (refine arr_dg.ex (rX9.below hw') hbc (.tmp 5) ?_ ?_ <;> rfl))
  try simp only [Act.put, List.setIfInBounds_toArray, List.set_cons_zero, List.set_cons_succ]
  refine wpAnyS_take (i := 29) (v := ?_) hS (some 64) rfl rfl (by kernel_rfl) (by kernel_rfl) (by kernel_rfl) (fun _ _ _ h => h) ?_ ?_
  rotate_left 1
  · (refine Or.inl ⟨by rfl, ?_⟩; intro w' hw'; (refine arr_dg.ex (rB9.below hw') lb (.tmp 2) ?_ ?_ <;> rfl))
  try simp only [Act.put, List.setIfInBounds_toArray, List.set_cons_zero, List.set_cons_succ]
  refine wpAnyS_take (i := 30) (v := ?_) hS (some 65) rfl rfl (by kernel_rfl) (by kernel_rfl) (by kernel_rfl) (fun _ _ _ h => h) ?_ ?_
  rotate_left 1
  · (refine Or.inl ⟨by rfl, ?_⟩; intro w' hw'; (refine arr_dg.ex (rC9.below hw') lc (.tmp 3) ?_ ?_ <;> rfl))
  try simp only [Act.put, List.setIfInBounds_toArray, List.set_cons_zero, List.set_cons_succ]
  refine wpAnyS_one (i := 31) rfl (by kernel_rfl) (by rfl) (fun K hK => ?_)
  go_simp
  (with_reducible refine (cn3 _).mono ?_); rintro e w10 ⟨rfl, b10⟩
  have hb := Below.trans hS (b10.mono hS.size)
  refine hK.out _ _ hb ?_
  replace hS := hb
  clear hK K hb
  try simp only [Act.put, List.setIfInBounds_toArray, List.set_cons_zero, List.set_cons_succ]
  refine wpAnyS_take (i := 32) (v := ?_) hS (some 67) rfl rfl (by kernel_rfl) (by kernel_rfl) (by kernel_rfl) (fun _ _ _ h => h) ?_ ?_
  rotate_left 1
  · (refine Or.inl ⟨by rfl, ?_⟩; intro w' hw'; (try go_simp); (try rfl); done)
  try simp only [Act.put, List.setIfInBounds_toArray, List.set_cons_zero, List.set_cons_succ]
  refine wpAnyS_take (i := 33) (v := ?_) hS (some 68) rfl rfl (by kernel_rfl) (by kernel_rfl) (by kernel_rfl) (fun _ _ _ h => h) ?_ ?_
  rotate_left 1
  · (refine Or.inl ⟨by rfl, ?_⟩; intro w' hw'; (try go_simp); (try rfl); done)
  try simp only [Act.put, List.setIfInBounds_toArray, List.set_cons_zero, List.set_cons_succ]
  refine wpAnyS_take (i := 34) (v := ?_) hS (some 69) rfl rfl (by kernel_rfl) (by kernel_rfl) (by kernel_rfl) (fun _ _ _ h => h) ?_ ?_
  rotate_left 1
  · (refine Or.inl ⟨by rfl, ?_⟩; intro w' hw'; (try go_simp); (try rfl); done)
  try simp only [Act.put, List.setIfInBounds_toArray, List.set_cons_zero, List.set_cons_succ]
  refine wpAnyS_take (i := 35) (v := ?_) hS (some 70) rfl rfl (by kernel_rfl) (by kernel_rfl) (by kernel_rfl) (fun _ _ _ h => h) ?_ ?_
  rotate_left 1
  · (refine Or.inl ⟨by rfl, ?_⟩; intro w' hw'; (try go_simp); (try rfl); done)
  try simp only [Act.put, List.setIfInBounds_toArray, List.set_cons_zero, List.set_cons_succ]
  refine wpAnyS_take (i := 36) (v := ?_) hS (some 71) rfl rfl (by kernel_rfl) (by kernel_rfl) (by kernel_rfl) (fun _ _ _ h => h) ?_ ?_
  rotate_left 1
  · (refine Or.inl ⟨by rfl, ?_⟩; intro w' hw'; (try go_simp); (try rfl); done)
  try simp only [Act.put, List.setIfInBounds_toArray, List.set_cons_zero, List.set_cons_succ]
  refine wpAnyS_take (i := 37) (v := ?_) hS (some 72) rfl rfl (by kernel_rfl) (by kernel_rfl) (by kernel_rfl) (fun _ _ _ h => h) ?_ ?_
  rotate_left 1
  · (refine Or.inl ⟨by rfl, ?_⟩; intro w' hw'; (try go_simp); (try rfl); done)
  try simp only [Act.put, List.setIfInBounds_toArray, List.set_cons_zero, List.set_cons_succ]
  refine wpAnyS_take (i := 38) (v := ?_) hS (some 73) rfl rfl (by kernel_rfl) (by kernel_rfl) (by kernel_rfl) (fun _ _ _ h => h) ?_ ?_
  rotate_left 1
  · (refine Or.inl ⟨by rfl, ?_⟩; intro w' hw'; (try go_simp); (try rfl); done)
  try simp only [Act.put, List.setIfInBounds_toArray, List.set_cons_zero, List.set_cons_succ]
  refine wpAnyS_take (i := 39) (v := ?_) hS (some 74) rfl rfl (by kernel_rfl) (by kernel_rfl) (by kernel_rfl) (fun _ _ _ h => h) ?_ ?_
  rotate_left 1
  · (refine Or.inl ⟨by rfl, ?_⟩; intro w' hw'; (try go_simp); (try rfl); done)
  try simp only [Act.put, List.setIfInBounds_toArray, List.set_cons_zero, List.set_cons_succ]
  refine wpAnyS_take (i := 40) (v := ?_) hS (some 75) rfl rfl (by kernel_rfl) (by kernel_rfl) (by kernel_rfl) (fun _ _ _ h => h) ?_ ?_
  rotate_left 1
  · (refine Or.inl ⟨by rfl, ?_⟩; intro w' hw'; (try go_simp); (try rfl); done)
  try simp only [Act.put, List.setIfInBounds_toArray, List.set_cons_zero, List.set_cons_succ]
  refine wpAnyS_take (i := 41) (v := ?_) hS (some 76) rfl rfl (by kernel_rfl) (by kernel_rfl) (by kernel_rfl) (fun _ _ _ h => h) ?_ ?_
  rotate_left 1
  · (refine Or.inl ⟨by rfl, ?_⟩; intro w' hw'; (try go_simp); (try rfl); done)
  try simp only [Act.put, List.setIfInBounds_toArray, List.set_cons_zero, List.set_cons_succ]
  refine wpAnyS_take (i := 42) (v := ?_) hS (some 77) rfl rfl (by kernel_rfl) (by kernel_rfl) (by kernel_rfl) (fun _ _ _ h => h) ?_ ?_
  rotate_left 1
  · (refine Or.inl ⟨by rfl, ?_⟩; intro w' hw'; (try go_simp); (try rfl); done)
  try simp only [Act.put, List.setIfInBounds_toArray, List.set_cons_zero, List.set_cons_succ]
  refine wpAnyS_take (i := 43) (v := ?_) hS (some 78) rfl rfl (by kernel_rfl) (by kernel_rfl) (by kernel_rfl) (fun _ _ _ h => h) ?_ ?_
  rotate_left 1
  · (refine Or.inl ⟨by rfl, ?_⟩; intro w' hw'; (try go_simp); (try rfl); done)
  try simp only [Act.put, List.setIfInBounds_toArray, List.set_cons_zero, List.set_cons_succ]
  refine wpAnyS_take (i := 44) (v := ?_) hS (some 79) rfl rfl (by kernel_rfl) (by kernel_rfl) (by kernel_rfl) (fun _ _ _ h => h) ?_ ?_
  rotate_left 1
  · (refine Or.inl ⟨by rfl, ?_⟩; intro w' hw'; (try go_simp); (try rfl); done)
  try simp only [Act.put, List.setIfInBounds_toArray, List.set_cons_zero, List.set_cons_succ]
  refine wpAnyS_take (i := 45) (v := ?_) hS (some 80) rfl rfl (by kernel_rfl) (by kernel_rfl) (by kernel_rfl) (fun _ _ _ h => h) ?_ ?_
  rotate_left 1
  · (refine Or.inl ⟨by rfl, ?_⟩; intro w' hw'; (try go_simp); (try rfl); done)
  try simp only [Act.put, List.setIfInBounds_toArray, List.set_cons_zero, List.set_cons_succ]
  refine wpAnyS_take (i := 46) (v := ?_) hS (some 81) rfl rfl (by kernel_rfl) (by kernel_rfl) (by kernel_rfl) (fun _ _ _ h => h) ?_ ?_
  rotate_left 1
  · (refine Or.inl ⟨by rfl, ?_⟩; intro w' hw'; (try go_simp); (try rfl); done)
  try simp only [Act.put, List.setIfInBounds_toArray, List.set_cons_zero, List.set_cons_succ]
  refine wpAnyS_take (i := 47) (v := ?_) hS (some 82) rfl rfl (by kernel_rfl) (by kernel_rfl) (by kernel_rfl) (fun _ _ _ h => h) ?_ ?_
  rotate_left 1
  · (refine Or.inl ⟨by rfl, ?_⟩; intro w' hw'; (try go_simp); (try rfl); done)
  try simp only [Act.put, List.setIfInBounds_toArray, List.set_cons_zero, List.set_cons_succ]
  refine wpAnyS_take (i := 48) (v := ?_) hS (some 83) rfl rfl (by kernel_rfl) (by kernel_rfl) (by kernel_rfl) (fun _ _ _ h => h) ?_ ?_
  rotate_left 1
  · (refine Or.inl ⟨by rfl, ?_⟩; intro w' hw'; (try go_simp); (try rfl); done)
  try simp only [Act.put, List.setIfInBounds_toArray, List.set_cons_zero, List.set_cons_succ]
  refine wpAnyS_take (i := 49) (v := ?_) hS (some 84) rfl rfl (by kernel_rfl) (by kernel_rfl) (by kernel_rfl) (fun _ _ _ h => h) ?_ ?_
  rotate_left 1
  · (refine Or.inl ⟨by rfl, ?_⟩; intro w' hw'; (try go_simp); (try rfl); done)
  try simp only [Act.put, List.setIfInBounds_toArray, List.set_cons_zero, List.set_cons_succ]
  refine wpAnyS_take (i := 50) (v := ?_) hS (some 85) rfl rfl (by kernel_rfl) (by kernel_rfl) (by kernel_rfl) (fun _ _ _ h => h) ?_ ?_
  rotate_left 1
  · (refine Or.inl ⟨by rfl, ?_⟩; intro w' hw'; have hcl := (hw'.cell (World.block_lt_of_cell? _ _ hcell)).trans hcell; (try go_simp); (try rfl); done)
  try simp only [Act.put, List.setIfInBounds_toArray, List.set_cons_zero, List.set_cons_succ]
  refine wpAnyS_take (i := 51) (v := ?_) hS (some 86) rfl rfl (by kernel_rfl) (by kernel_rfl) (by kernel_rfl) (fun _ _ _ h => h) ?_ ?_
  rotate_left 1
  · (refine Or.inl ⟨by rfl, ?_⟩; intro w' hw'; (try go_simp); (try rfl); done)
  try simp only [Act.put, List.setIfInBounds_toArray, List.set_cons_zero, List.set_cons_succ]
  refine wpAnyS_take (i := 52) (v := ?_) hS (some 87) rfl rfl (by kernel_rfl) (by kernel_rfl) (by kernel_rfl) (fun _ _ _ h => h) ?_ ?_
  rotate_left 1
  · (refine Or.inl ⟨by rfl, ?_⟩; intro w' hw'; (try go_simp); (try rfl); done)
  try simp only [Act.put, List.setIfInBounds_toArray, List.set_cons_zero, List.set_cons_succ]
  refine wpAnyS_take (i := 53) (v := ?_) hS (some 88) rfl rfl (by kernel_rfl) (by kernel_rfl) (by kernel_rfl) (fun _ _ _ h => h) ?_ ?_
  rotate_left 1
  · (refine Or.inl ⟨by rfl, ?_⟩; intro w' hw'; (try go_simp); (try rfl); done)
  try simp only [Act.put, List.setIfInBounds_toArray, List.set_cons_zero, List.set_cons_succ]
  refine wpAnyS_take (i := 54) (v := ?_) hS (some 89) rfl rfl (by kernel_rfl) (by kernel_rfl) (by kernel_rfl) (fun _ _ _ h => h) ?_ ?_
  rotate_left 1
  · (refine Or.inl ⟨by rfl, ?_⟩; intro w' hw'; (try go_simp); (try rfl); done)
  try simp only [Act.put, List.setIfInBounds_toArray, List.set_cons_zero, List.set_cons_succ]
  refine wpAnyS_take (i := 55) (v := ?_) hS (some 90) rfl rfl (by kernel_rfl) (by kernel_rfl) (by kernel_rfl) (fun _ _ _ h => h) ?_ ?_
  rotate_left 1
  · (refine Or.inl ⟨by rfl, ?_⟩; intro w' hw'; (refine arr_dg.ex (rA9.below hw') la (.tmp 1) ?_ ?_ <;> rfl))
  try simp only [Act.put, List.setIfInBounds_toArray, List.set_cons_zero, List.set_cons_succ]
  refine wpAnyS_take (i := 56) (v := ?_) hS (some 91) rfl rfl (by kernel_rfl) (by kernel_rfl) (by kernel_rfl) (fun _ _ _ h => h) ?_ ?_
  rotate_left 1
  · (refine Or.inl ⟨by rfl, ?_⟩; intro w' hw'; (refine arr_dg.ex (rB9.below hw') lb (.tmp 2) ?_ ?_ <;> rfl))
  try simp only [Act.put, List.setIfInBounds_toArray, List.set_cons_zero, List.set_cons_succ]
  refine wpAnyS_take (i := 57) (v := ?_) hS (some 92) rfl rfl (by kernel_rfl) (by kernel_rfl) (by kernel_rfl) (fun _ _ _ h => h) ?_ ?_
  rotate_left 1
  · (refine Or.inl ⟨by rfl, ?_⟩; intro w' hw'; (try go_simp); (try rfl); done)
  try simp only [Act.put, List.setIfInBounds_toArray, List.set_cons_zero, List.set_cons_succ]
  refine wpAnyS_take (i := 58) (v := ?_) hS (some 93) rfl rfl (by kernel_rfl) (by kernel_rfl) (by kernel_rfl) (fun _ _ _ h => h) ?_ ?_
  rotate_left 1
  · (refine Or.inl ⟨by rfl, ?_⟩; intro w' hw'; (try go_simp); (try rfl); done)
  try simp only [Act.put, List.setIfInBounds_toArray, List.set_cons_zero, List.set_cons_succ]
  refine wpAnyS_take (i := 59) (v := ?_) hS (some 0) rfl rfl (by kernel_rfl) (by kernel_rfl) (by kernel_rfl) (fun _ _ _ h => h) ?_ ?_
  rotate_left 1
  · (refine Or.inl ⟨by rfl, ?_⟩; intro w' hw'; (try go_simp); (try rfl); done)
  try simp only [Act.put, List.setIfInBounds_toArray, List.set_cons_zero, List.set_cons_succ]
  refine wpAnyS_done (by kernel_rfl) ?_ _
  go_wp2_with fail
  go_ret
  exact ⟨rfl, Below.trans bw9 (hS.mono bw9.size)⟩
end Go.Proofs.Ytidgomppehhkgaa
