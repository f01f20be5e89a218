/- The chapter's wakes (walk). -/
import Derived.Test.YtcaaeimcieooiaaRngL
import Derived.Test.YtcaaeimcieooiaaMerS
import Derived.Test.YtcaaeimcieooiaaMerI
import Derived.Lib.SlBytesConst
set_option linter.unusedVariables false
set_option linter.unusedSimpArgs false
set_option maxRecDepth 10000
namespace Go.Proofs.Ytcaaeimcieooiaa
open Go.RowKit
attribute [local go_sem high] dg_cells guard_dg

theorem told0 (x : List UInt8) : toldN 0 [] x = [x] := rfl
theorem next0 (x : List UInt8) : nextN 0 [] x = [x] := rfl
theorem told1 (a b : List UInt8) : toldN 1 [a] b = [b, nodeL a b] := rfl
theorem next1 (a b : List UInt8) : nextN 1 [a] b = [nodeL a b] := rfl
theorem told2 (a c : List UInt8) : toldN 2 [a] c = [c] := rfl
theorem next2 (a c : List UInt8) : nextN 2 [a] c = [a, c] := rfl
theorem head2 (a c : List UInt8) : headL [a, c] = nodeL a c := rfl
set_option maxHeartbeats 8000000 in
theorem wakes_any (w : World) : Calls Try.prog 7 #[] w fun e w' => e = .returned (.bool true) ∧ Below w.heap.size w w' := by
  have kc := fun (w : World) (C : Array Value) (n c : Nat) => Lib.run_convert_bytes_const (P := Try.prog) w 56 5 C n c Try.underlying56 Try.underlying5
  have la := leafL_length [97]; have lb := leafL_length [98]; have lc := leafL_length [99]
  have ca := fun v w' h => leaf_any v [97] w' h (by decide)
  have cb := fun v w' h => leaf_any v [98] w' h (by decide)
  have cc := fun v w' h => leaf_any v [99] w' h (by decide)
  generalize leafL [97] = a at *
  generalize leafL [98] = b at *
  generalize leafL [99] = c at *
  go_enter Try.func7, Try.ntmps7
  go_wp2_with fail
  refine (ca _ _ (slB_lit _ [97] _ _ (by decide))).mono ?_; rintro e w1 ⟨rfl, b1⟩
  go_wp2_with fail
  refine (cb _ _ (slB_lit _ [98] _ _ (by decide))).mono ?_; rintro e w2 ⟨rfl, b2⟩
  go_wp2_with fail
  refine (cc _ _ (slB_lit _ [99] _ _ (by decide))).mono ?_; rintro e w3 ⟨rfl, b3⟩
  have bw3 : Ext w w3 := Ext.trans (ext_alloc _ _) (Ext.trans b1 (Ext.trans (ext_alloc _ _) (Ext.trans b2 (Ext.trans (ext_alloc _ _) b3))))
  clear b1 b2 b3 ca cb cc kc
  go_wp2_with ((with_reducible refine at_store ?_); refine stop_here ?_)
  unfold Stop
  generalize hW : World.alloc (World.alloc (World.alloc w3 _) _) _ = W
  obtain ⟨h1, h2, h3, bw, z⟩ := alloc3 hW
  have rA : RowT 29 W w3.heap.size zer := h1
  have rB : RowT 29 W (w3.heap.size + 1) zer := h2
  have rC : RowT 29 W (w3.heap.size + 1 + 1) zer := h3
  have rA1 := rA.setRow a
  have rB1 := rB.other (D := w3.heap.size) (by omega) (bs a).toArray
  have rC1 := rC.other (D := w3.heap.size) (by omega) (bs a).toArray
  have rA2 := rA1.other (D := w3.heap.size + 1) (by omega) (bs b).toArray
  have rB2 := rB1.setRow b
  have rC2 := rC1.other (D := w3.heap.size + 1) (by omega) (bs b).toArray
  have rA3 := rA2.other (D := w3.heap.size + 1 + 1) (by omega) (bs c).toArray
  have rB3 := rB2.other (D := w3.heap.size + 1 + 1) (by omega) (bs c).toArray
  have rC3 := rC2.setRow c
  have bz := below_setRow (below_setRow (below_setRow (Below.trans bw3 (bw.mono bw3.size)) (show w.heap.size ≤ w3.heap.size from bw3.size) (bs a).toArray) (show w.heap.size ≤ w3.heap.size + 1 by have := bw3.size; omega) (bs b).toArray) (show w.heap.size ≤ w3.heap.size + 1 + 1 by have := bw3.size; omega) (bs c).toArray
  clear h1 h2 h3 bw hW
  refine arr_dg.storeL rA zer_length rfl la _ _ rfl rfl rfl ?_
  refine arr_dg.storeL rB1 zer_length rfl lb _ _ rfl rfl rfl ?_
  refine arr_dg.storeL rC2 zer_length rfl lc _ _ rfl rfl rfl ?_
  have hzB : ((W.setRow w3.heap.size (bs a).toArray).setRow (w3.heap.size + 1) (bs b).toArray |>.setRow (w3.heap.size + 1 + 1) (bs c).toArray).heap.size = w3.heap.size + 3 := by simp [World.setRow, z]
  generalize ((W.setRow w3.heap.size (bs a).toArray).setRow (w3.heap.size + 1) (bs b).toArray).setRow (w3.heap.size + 1 + 1) (bs c).toArray = W3 at *
  clear rA rB rC rA1 rB1 rC1 rA2 rB2 rC2 z
  have hBw := bw3.size
  clear bw3
  generalize hB : w3.heap.size = B at *
  clear hB
  go_wp2_with fail
  refine (rg_new W3).mono ?_; rintro e w4 ⟨p, rfl, hr, b4⟩
  rw [hzB] at hr b4
  have rA4 : RowT 29 w4 B a := (b4.block B (by omega)).trans rA3
  have rB4 : RowT 29 w4 (B + 1) b := (b4.block (B + 1) (by omega)).trans rB3
  have rC4 : RowT 29 w4 (B + 1 + 1) c := (b4.block (B + 1 + 1) (by omega)).trans rC3
  have bz4 := bz.trans (b4.mono (by omega))
  have z4 := b4.size
  clear rA3 rB3 rC3 bz b4
  go_wp2_with ((with_reducible refine at_load ?_); refine arr_dg.loadL rA4 (by rfl) la _ rfl rfl ?_)
  refine (rg_add hr (by omega) (by omega) a la).mono ?_; rintro e w5 ⟨u1, v1, rfl, o1, hr5, bu5, dj5⟩
  rw [told0] at o1; rw [next0] at hr5
  have rA5 := rA4.but bu5 (fun h => by have := hr.blk _ h; omega)
  have rB5 := rB4.but bu5 (fun h => by have := hr.blk _ h; omega)
  have rC5 := rC4.but bu5 (fun h => by have := hr.blk _ h; omega)
  have bz5 := bz4.trans (bu5.below (by omega) (fun k hk h => by have := hr.blk _ h; omega))
  have z5 := bu5.size
  obtain ⟨⟨A1, c1, rfl, _⟩, _⟩ := o1.sl
  clear rA4 rB4 rC4 bz4 bu5 dj5 hr o1
  go_wp2_with ((with_reducible refine at_load ?_); refine arr_dg.loadL rB5 (by rfl) lb _ rfl rfl ?_)
  refine (rg_add hr5 (by omega) (by omega) b lb).mono ?_; rintro e w6 ⟨u2, v2, rfl, o2, hr6, bu6, dj6⟩
  rw [told1] at o2; rw [next1] at hr6
  have rA6 := rA5.but bu6 (fun h => by have := hr5.blk _ h; omega)
  have rB6 := rB5.but bu6 (fun h => by have := hr5.blk _ h; omega)
  have rC6 := rC5.but bu6 (fun h => by have := hr5.blk _ h; omega)
  have bz6 := bz5.trans (bu6.below (by omega) (fun k hk h => by have := hr5.blk _ h; omega))
  have z6 := bu6.size
  have hp5 := hr5.lt
  clear rA5 rB5 rC5 bz5 bu6 hr5
  have lab := nodeL_length a b
  have hnd := fun w' => node_any a b la lb w'
  generalize nodeL a b = ab at *
  go_wp2_with ((with_reducible refine at_load ?_); refine arr_dg.loadL rC6 (by rfl) lc _ rfl rfl ?_)
  refine (rg_add hr6 (by omega) (by omega) c lc).mono ?_; rintro e w7 ⟨u3, v3, rfl, o3, hr7, bu7, dj7⟩
  rw [told2] at o3; rw [next2] at hr7
  have rA7 := rA6.but bu7 (fun h => by have := hr6.blk _ h; omega)
  have rB7 := rB6.but bu7 (fun h => by have := hr6.blk _ h; omega)
  have rC7 := rC6.but bu7 (fun h => by have := hr6.blk _ h; omega)
  have o27 := o2.but bu7 (fun k hk h => by
    have := (o2.lt k hk).1
    rcases h with h | h
    · omega
    · exact (dj6 k h).2 hk)
  have bz7 := bz6.trans (bu7.below (by omega) (fun k hk h => by have := hr6.blk _ h; omega))
  have z7 := bu7.size
  obtain ⟨⟨A3, c3, rfl, _⟩, _⟩ := o3.sl
  have s2 := o27.sl
  clear rA6 rB6 rC6 bz6 bu7 hr6 o3 o2 dj6 dj7
  go_wp2_with (first
    | ((with_reducible refine at_load ?_); first | refine arr_dg.loadL rA7 (by rfl) la _ rfl rfl ?_ | refine arr_dg.loadL rB7 (by rfl) lb _ rfl rfl ?_)
    | fail)
  refine (hnd _).mono ?_; rintro e w8 ⟨rfl, b8⟩
  have e9 := ext_alloc w8 (.cells (bs ab).toArray 29 (0, 0))
  have rX : RowT 29 (w8.alloc (.cells (bs ab).toArray 29 (0, 0))) w8.heap.size ab := heap_alloc_new _ _
  have b9 := Ext.trans b8 e9
  have rC9 := rC7.below b9
  have hr9 := hr7.below b9
  have s29 := s2.below b9
  have bz9 := bz7.trans (b9.mono (by omega))
  have z9 := b9.size
  clear rA7 rB7 rC7 hr7 s2 bz7 e9 b8 b9 hnd
  go_wp2_with ((with_reducible refine at_store ?_); refine arr_dg.store_newL zer_length rfl lab _ _ rfl rfl rfl ?_)
  generalize hX : w8.heap.size = X at *
  generalize hW9 : w8.alloc (.cells (bs ab).toArray 29 (0, 0)) = W9 at *
  clear hX hW9
  refine (rg_peaks hr9).mono ?_; rintro e W ⟨v4, rfl, o4, b10⟩
  have rC10 := rC9.below b10
  have rX10 := rX.below b10
  have hr10 := hr9.below b10
  have s210 := s29.below b10
  have s4 := o4.sl
  have bz10 := bz9.trans (b10.mono (by omega))
  have z10 := b10.size
  clear rC9 rX hr9 s29 bz9 b10
  obtain ⟨⟨A2, c2, rfl, hc2, _⟩, _⟩ := id s210
  obtain ⟨⟨A4, c4, rfl, hc4, _⟩, _⟩ := id s4
  obtain ⟨ad2, rfl, _⟩ := s210.get (i := 1) (by simp)
  obtain ⟨ad4, rfl, _⟩ := s4.get (i := 0) (by simp)
  go_wp2_with fail
  have hcur : Below w.heap.size w W := bz10
  have e0 := Ext.refl W
  have g2 : ∀ w', Ext W w' → RdB w' (some (ad2.add (1 * 32))) ab := fun w' h => by
    obtain ⟨_, e, hh⟩ := (s210.below h).get (i := 1) (by simp)
    cases e; exact hh
  have g4 : ∀ w', Ext W w' → RdB w' (some (ad4.add (0 * 32))) ab := fun w' h => by
    obtain ⟨_, e, hh⟩ := (s4.below h).get (i := 0) (by simp)
    cases e; exact hh
  have hroot := fun w' (h : Ext W w') => rg_root (hr10.below h)
  have hsize := fun w' (h : Ext W w') => rg_size (hr10.below h)
  have hndc := fun w' => node_any ab c lab lc w'
  have lnc := nodeL_length ab c
  rw [head2] at hroot
  obtain ⟨hd, hh⟩ : ∃ hd, nodeL ab c = hd := ⟨_, rfl⟩
  rw [hh] at hroot hndc lnc
  replace hh : Hid _ := hh
  have q1 := neq_dg_self ab lab
  have q2 := neq_dg_self hd lnc
  refine wp_region_E (by kernel_rfl) ?_
  replace hcur := below_via hcur (ext_drew _)
  replace e0 := Ext.trans e0 (ext_drew _)
  refine wpAnyE_take (i := 0) (v := ?_) (some 50) rfl rfl (by kernel_rfl) (by kernel_rfl) (by kernel_rfl) (fun _ _ _ h => h) ?_ ?_
  rotate_left 1
  · (refine Or.inl ⟨by rfl, ?_⟩; intro w' hw'; have hq := below_via hcur hw'; have hq_e0 := Ext.trans e0 hw'; (try go_simp); (try rfl); done)
  try simp only [Act.put, List.setIfInBounds_toArray, List.set_cons_zero, List.set_cons_succ]
  refine wpAnyE_take (i := 1) (v := ?_) (some 51) rfl rfl (by kernel_rfl) (by kernel_rfl) (by kernel_rfl) (fun _ _ _ h => h) ?_ ?_
  rotate_left 1
  · (refine Or.inl ⟨by rfl, ?_⟩; intro w' hw'; have hq := below_via hcur hw'; have hq_e0 := Ext.trans e0 hw'; (try go_simp); (try rfl); done)
  try simp only [Act.put, List.setIfInBounds_toArray, List.set_cons_zero, List.set_cons_succ]
  refine wpAnyE_take (i := 2) (v := ?_) (some 52) rfl rfl (by kernel_rfl) (by kernel_rfl) (by kernel_rfl) (fun _ _ _ h => h) ?_ ?_
  rotate_left 1
  · (refine Or.inl ⟨by rfl, ?_⟩; intro w' hw'; have hq := below_via hcur hw'; have hq_e0 := Ext.trans e0 hw'; (try go_simp); (try rfl); done)
  try simp only [Act.put, List.setIfInBounds_toArray, List.set_cons_zero, List.set_cons_succ]
  refine wpAnyE_take (i := 3) (v := ?_) (some 53) rfl rfl (by kernel_rfl) (by kernel_rfl) (by kernel_rfl) (fun _ _ _ h => h) ?_ ?_
  rotate_left 1
  · (refine Or.inl ⟨by rfl, ?_⟩; intro w' hw'; have hq := below_via hcur hw'; have hq_e0 := Ext.trans e0 hw'; (try go_simp); (try rfl); done)
  try simp only [Act.put, List.setIfInBounds_toArray, List.set_cons_zero, List.set_cons_succ]
  refine wpAnyE_take (i := 4) (v := ?_) (some 54) rfl rfl (by kernel_rfl) (by kernel_rfl) (by kernel_rfl) (fun _ _ _ h => h) ?_ ?_
  rotate_left 1
  · (refine Or.inl ⟨by rfl, ?_⟩; intro w' hw'; have hq := below_via hcur hw'; have hq_e0 := Ext.trans e0 hw'; (try go_simp); (try rfl); done)
  try simp only [Act.put, List.setIfInBounds_toArray, List.set_cons_zero, List.set_cons_succ]
  refine wpAnyE_take (i := 5) (v := ?_) (some 55) rfl rfl (by kernel_rfl) (by kernel_rfl) (by kernel_rfl) (fun _ _ _ h => h) ?_ ?_
  rotate_left 1
  · (refine Or.inl ⟨by rfl, ?_⟩; intro w' hw'; have hq := below_via hcur hw'; have hq_e0 := Ext.trans e0 hw'; (try go_simp); (try rfl); done)
  try simp only [Act.put, List.setIfInBounds_toArray, List.set_cons_zero, List.set_cons_succ]
  refine wpAnyE_take (i := 6) (v := ?_) (some 56) rfl rfl (by kernel_rfl) (by kernel_rfl) (by kernel_rfl) (fun _ _ _ h => h) ?_ ?_
  rotate_left 1
  · (refine Or.inl ⟨by rfl, ?_⟩; intro w' hw'; have hq := below_via hcur hw'; have hq_e0 := Ext.trans e0 hw'; (try go_simp); (try rfl); done)
  try simp only [Act.put, List.setIfInBounds_toArray, List.set_cons_zero, List.set_cons_succ]
  refine wpAnyE_take (i := 7) (v := ?_) (some 57) rfl rfl (by kernel_rfl) (by kernel_rfl) (by kernel_rfl) (fun _ _ _ h => h) ?_ ?_
  rotate_left 1
  · (refine Or.inl ⟨by rfl, ?_⟩; intro w' hw'; have hq := below_via hcur hw'; have hq_e0 := Ext.trans e0 hw'; (try go_simp); (try rfl); done)
  try simp only [Act.put, List.setIfInBounds_toArray, List.set_cons_zero, List.set_cons_succ]
  refine wpAnyE_take (i := 8) (v := ?_) (some 58) rfl rfl (by kernel_rfl) (by kernel_rfl) (by kernel_rfl) (fun _ _ _ h => h) ?_ ?_
  rotate_left 1
  · (refine Or.inl ⟨by rfl, ?_⟩; intro w' hw'; have hq := below_via hcur hw'; have hq_e0 := Ext.trans e0 hw'; (try go_simp); (try rfl); done)
  try simp only [Act.put, List.setIfInBounds_toArray, List.set_cons_zero, List.set_cons_succ]
  refine wpAnyE_take (i := 9) (v := ?_) (some 59) rfl rfl (by kernel_rfl) (by kernel_rfl) (by kernel_rfl) (fun _ _ _ h => h) ?_ ?_
  rotate_left 1
  · (refine Or.inl ⟨by rfl, ?_⟩; intro w' hw'; have hq := below_via hcur hw'; have hq_e0 := Ext.trans e0 hw'; (try go_simp); (try rfl); done)
  try simp only [Act.put, List.setIfInBounds_toArray, List.set_cons_zero, List.set_cons_succ]
  refine wpAnyE_take (i := 10) (v := ?_) (some 60) rfl rfl (by kernel_rfl) (by kernel_rfl) (by kernel_rfl) (fun _ _ _ h => h) ?_ ?_
  rotate_left 1
  · (refine Or.inl ⟨by rfl, ?_⟩; intro w' hw'; have hq := below_via hcur hw'; have hq_e0 := Ext.trans e0 hw'; (try go_simp); (try rfl); done)
  try simp only [Act.put, List.setIfInBounds_toArray, List.set_cons_zero, List.set_cons_succ]
  refine wpAnyE_take (i := 11) (v := ?_) (some 61) rfl rfl (by kernel_rfl) (by kernel_rfl) (by kernel_rfl) (fun _ _ _ h => h) ?_ ?_
  rotate_left 1
  · (refine Or.inl ⟨by rfl, ?_⟩; intro w' hw'; have hq := below_via hcur hw'; have hq_e0 := Ext.trans e0 hw'; (try go_simp); (try rfl); done)
  try simp only [Act.put, List.setIfInBounds_toArray, List.set_cons_zero, List.set_cons_succ]
  refine wpAnyE_take (i := 12) (v := ?_) (some 62) rfl rfl (by kernel_rfl) (by kernel_rfl) (by kernel_rfl) (fun _ _ _ h => h) ?_ ?_
  rotate_left 1
  · (refine Or.inl ⟨by rfl, ?_⟩; intro w' hw'; have hq := below_via hcur hw'; have hq_e0 := Ext.trans e0 hw'; (try go_simp); (try rfl); done)
  try simp only [Act.put, List.setIfInBounds_toArray, List.set_cons_zero, List.set_cons_succ]
  refine wpAnyE_take (i := 13) (v := ?_) (some 63) rfl rfl (by kernel_rfl) (by kernel_rfl) (by kernel_rfl) (fun _ _ _ h => h) ?_ ?_
  rotate_left 1
  · (refine Or.inl ⟨by rfl, ?_⟩; intro w' hw'; have hq := below_via hcur hw'; have hq_e0 := Ext.trans e0 hw'; (try go_simp); (try rfl); done)
  try simp only [Act.put, List.setIfInBounds_toArray, List.set_cons_zero, List.set_cons_succ]
  refine wpAnyE_take (i := 14) (v := ?_) (some 64) rfl rfl (by kernel_rfl) (by kernel_rfl) (by kernel_rfl) (fun _ _ _ h => h) ?_ ?_
  rotate_left 1
  · (refine Or.inl ⟨by rfl, ?_⟩; intro w' hw'; have hq := below_via hcur hw'; have hq_e0 := Ext.trans e0 hw'; (try go_simp); (try rfl); done)
  try simp only [Act.put, List.setIfInBounds_toArray, List.set_cons_zero, List.set_cons_succ]
  refine wpAnyE_take (i := 15) (v := ?_) (some 65) rfl rfl (by kernel_rfl) (by kernel_rfl) (by kernel_rfl) (fun _ _ _ h => h) ?_ ?_
  rotate_left 1
  · (refine Or.inl ⟨by rfl, ?_⟩; intro w' hw'; have hq := below_via hcur hw'; have hq_e0 := Ext.trans e0 hw'; (try go_simp); (try rfl); done)
  try simp only [Act.put, List.setIfInBounds_toArray, List.set_cons_zero, List.set_cons_succ]
  refine wpAnyE_take (i := 16) (v := ?_) (some 66) rfl rfl (by kernel_rfl) (by kernel_rfl) (by kernel_rfl) (fun _ _ _ h => h) ?_ ?_
  rotate_left 1
  · (refine Or.inl ⟨by rfl, ?_⟩; intro w' hw'; have hq := below_via hcur hw'; have hq_e0 := Ext.trans e0 hw'; (try go_simp); (try rfl); done)
  try simp only [Act.put, List.setIfInBounds_toArray, List.set_cons_zero, List.set_cons_succ]
  refine wpAnyE_take (i := 17) (v := ?_) (some 67) rfl rfl (by kernel_rfl) (by kernel_rfl) (by kernel_rfl) (fun _ _ _ h => h) ?_ ?_
  rotate_left 1
  · (refine Or.inl ⟨by rfl, ?_⟩; intro w' hw'; have hq := below_via hcur hw'; have hq_e0 := Ext.trans e0 hw'; (try go_simp); (try rfl); done)
  try simp only [Act.put, List.setIfInBounds_toArray, List.set_cons_zero, List.set_cons_succ]
  refine wpAnyE_take (i := 18) (v := ?_) (some 68) rfl rfl (by kernel_rfl) (by kernel_rfl) (by kernel_rfl) (fun _ _ _ h => h) ?_ ?_
  rotate_left 1
  · (refine Or.inl ⟨by rfl, ?_⟩; intro w' hw'; have hq := below_via hcur hw'; have hq_e0 := Ext.trans e0 hw'; (try go_simp); (try rfl); done)
  try simp only [Act.put, List.setIfInBounds_toArray, List.set_cons_zero, List.set_cons_succ]
  refine wpAnyE_take (i := 19) (v := ?_) (some 69) rfl rfl (by kernel_rfl) (by kernel_rfl) (by kernel_rfl) (fun _ _ _ h => h) ?_ ?_
  rotate_left 1
  · (refine Or.inl ⟨by rfl, ?_⟩; intro w' hw'; have hq := below_via hcur hw'; have hq_e0 := Ext.trans e0 hw'; (try go_simp); (try rfl); done)
  try simp only [Act.put, List.setIfInBounds_toArray, List.set_cons_zero, List.set_cons_succ]
  refine wpAnyE_take (i := 20) (v := ?_) (some 70) rfl rfl (by kernel_rfl) (by kernel_rfl) (by kernel_rfl) (fun _ _ _ h => h) ?_ ?_
  rotate_left 1
  · (refine Or.inl ⟨by rfl, ?_⟩; intro w' hw'; have hq := below_via hcur hw'; have hq_e0 := Ext.trans e0 hw'; (try go_simp); (try rfl); done)
  try simp only [Act.put, List.setIfInBounds_toArray, List.set_cons_zero, List.set_cons_succ]
  refine wpAnyE_take (i := 21) (v := ?_) (some 71) rfl rfl (by kernel_rfl) (by kernel_rfl) (by kernel_rfl) (fun _ _ _ h => h) ?_ ?_
  rotate_left 1
  · (refine Or.inl ⟨by rfl, ?_⟩; intro w' hw'; have hq := below_via hcur hw'; have hq_e0 := Ext.trans e0 hw'; (try go_simp); (try rfl); done)
  try simp only [Act.put, List.setIfInBounds_toArray, List.set_cons_zero, List.set_cons_succ]
  refine wpAnyE_take (i := 22) (v := ?_) (some 72) rfl rfl (by kernel_rfl) (by kernel_rfl) (by kernel_rfl) (fun _ _ _ h => h) ?_ ?_
  rotate_left 1
  · (refine Or.inl ⟨by rfl, ?_⟩; intro w' hw'; have hq := below_via hcur hw'; have hq_e0 := Ext.trans e0 hw'; (try go_simp); (try rfl); done)
  try simp only [Act.put, List.setIfInBounds_toArray, List.set_cons_zero, List.set_cons_succ]
  refine wpAnyE_take (i := 23) (v := ?_) (some 73) rfl rfl (by kernel_rfl) (by kernel_rfl) (by kernel_rfl) (fun _ _ _ h => h) ?_ ?_
  rotate_left 1
  · (refine Or.inl ⟨by rfl, ?_⟩; intro w' hw'; have hq := below_via hcur hw'; have hq_e0 := Ext.trans e0 hw'; (refine arr_dg.exAt (g2 _ hq_e0) lab (.tmp 72) ?_ ?_ <;> rfl))
  try simp only [Act.put, List.setIfInBounds_toArray, List.set_cons_zero, List.set_cons_succ]
  refine wpAnyE_take (i := 24) (v := ?_) (some 74) rfl rfl (by kernel_rfl) (by kernel_rfl) (by kernel_rfl) (fun _ _ _ h => h) ?_ ?_
  rotate_left 1
  · (refine Or.inl ⟨by rfl, ?_⟩; intro w' hw'; have hq := below_via hcur hw'; have hq_e0 := Ext.trans e0 hw'; (refine arr_dg.ex (rX10.below hq_e0) lab (.tmp 11) ?_ ?_ <;> rfl))
  try simp only [Act.put, List.setIfInBounds_toArray, List.set_cons_zero, List.set_cons_succ]
  refine wpAnyE_take (i := 25) (v := ?_) (some 75) rfl rfl (by kernel_rfl) (by kernel_rfl) (by kernel_rfl) (fun _ _ _ h => h) ?_ ?_
  rotate_left 1
  · (refine Or.inl ⟨by rfl, ?_⟩; intro w' hw'; have hq := below_via hcur hw'; have hq_e0 := Ext.trans e0 hw'; (try go_simp); (try rfl); done)
  try simp only [Act.put, List.setIfInBounds_toArray, List.set_cons_zero, List.set_cons_succ]
  refine wpAnyE_take (i := 26) (v := ?_) (some 76) rfl rfl (by kernel_rfl) (by kernel_rfl) (by kernel_rfl) (fun _ _ _ h => h) ?_ ?_
  rotate_left 1
  · (refine Or.inl ⟨by rfl, ?_⟩; intro w' hw'; have hq := below_via hcur hw'; have hq_e0 := Ext.trans e0 hw'; (try go_simp); (try rfl); done)
  try simp only [Act.put, List.setIfInBounds_toArray, List.set_cons_zero, List.set_cons_succ]
  refine wpAnyE_take (i := 27) (v := ?_) (some 77) rfl rfl (by kernel_rfl) (by kernel_rfl) (by kernel_rfl) (fun _ _ _ h => h) ?_ ?_
  rotate_left 1
  · (refine Or.inl ⟨by rfl, ?_⟩; intro w' hw'; have hq := below_via hcur hw'; have hq_e0 := Ext.trans e0 hw'; (try go_simp); (try rfl); done)
  try simp only [Act.put, List.setIfInBounds_toArray, List.set_cons_zero, List.set_cons_succ]
  refine wpAnyE_take (i := 28) (v := ?_) (some 78) rfl rfl (by kernel_rfl) (by kernel_rfl) (by kernel_rfl) (fun _ _ _ h => h) ?_ ?_
  rotate_left 1
  · (refine Or.inl ⟨by rfl, ?_⟩; intro w' hw'; have hq := below_via hcur hw'; have hq_e0 := Ext.trans e0 hw'; (try go_simp); (try rfl); done)
  try simp only [Act.put, List.setIfInBounds_toArray, List.set_cons_zero, List.set_cons_succ]
  refine wpAnyE_take (i := 29) (v := ?_) (some 79) rfl rfl (by kernel_rfl) (by kernel_rfl) (by kernel_rfl) (fun _ _ _ h => h) ?_ ?_
  rotate_left 1
  · (refine Or.inl ⟨by rfl, ?_⟩; intro w' hw'; have hq := below_via hcur hw'; have hq_e0 := Ext.trans e0 hw'; (try go_simp); (try rfl); done)
  try simp only [Act.put, List.setIfInBounds_toArray, List.set_cons_zero, List.set_cons_succ]
  refine wpAnyE_take (i := 30) (v := ?_) (some 80) rfl rfl (by kernel_rfl) (by kernel_rfl) (by kernel_rfl) (fun _ _ _ h => h) ?_ ?_
  rotate_left 1
  · (refine Or.inl ⟨by rfl, ?_⟩; intro w' hw'; have hq := below_via hcur hw'; have hq_e0 := Ext.trans e0 hw'; (try go_simp); (try rfl); done)
  try simp only [Act.put, List.setIfInBounds_toArray, List.set_cons_zero, List.set_cons_succ]
  refine wpAnyE_take (i := 31) (v := ?_) (some 81) rfl rfl (by kernel_rfl) (by kernel_rfl) (by kernel_rfl) (fun _ _ _ h => h) ?_ ?_
  rotate_left 1
  · (refine Or.inl ⟨by rfl, ?_⟩; intro w' hw'; have hq := below_via hcur hw'; have hq_e0 := Ext.trans e0 hw'; (try go_simp); (try rfl); done)
  try simp only [Act.put, List.setIfInBounds_toArray, List.set_cons_zero, List.set_cons_succ]
  refine wpAnyE_take (i := 32) (v := ?_) (some 82) rfl rfl (by kernel_rfl) (by kernel_rfl) (by kernel_rfl) (fun _ _ _ h => h) ?_ ?_
  rotate_left 1
  · (refine Or.inl ⟨by rfl, ?_⟩; intro w' hw'; have hq := below_via hcur hw'; have hq_e0 := Ext.trans e0 hw'; (try go_simp); (try rfl); done)
  try simp only [Act.put, List.setIfInBounds_toArray, List.set_cons_zero, List.set_cons_succ]
  refine wpAnyE_take (i := 33) (v := ?_) (some 83) rfl rfl (by kernel_rfl) (by kernel_rfl) (by kernel_rfl) (fun _ _ _ h => h) ?_ ?_
  rotate_left 1
  · (refine Or.inl ⟨by rfl, ?_⟩; intro w' hw'; have hq := below_via hcur hw'; have hq_e0 := Ext.trans e0 hw'; (try go_simp); (try rfl); done)
  try simp only [Act.put, List.setIfInBounds_toArray, List.set_cons_zero, List.set_cons_succ]
  refine wpAnyE_take (i := 34) (v := ?_) (some 84) rfl rfl (by kernel_rfl) (by kernel_rfl) (by kernel_rfl) (fun _ _ _ h => h) ?_ ?_
  rotate_left 1
  · (refine Or.inl ⟨by rfl, ?_⟩; intro w' hw'; have hq := below_via hcur hw'; have hq_e0 := Ext.trans e0 hw'; (try go_simp); (try rfl); done)
  try simp only [Act.put, List.setIfInBounds_toArray, List.set_cons_zero, List.set_cons_succ]
  refine wpAnyE_take (i := 35) (v := ?_) (some 85) rfl rfl (by kernel_rfl) (by kernel_rfl) (by kernel_rfl) (fun _ _ _ h => h) ?_ ?_
  rotate_left 1
  · (refine Or.inl ⟨by rfl, ?_⟩; intro w' hw'; have hq := below_via hcur hw'; have hq_e0 := Ext.trans e0 hw'; (try go_simp); (try rfl); done)
  try simp only [Act.put, List.setIfInBounds_toArray, List.set_cons_zero, List.set_cons_succ]
  refine wpAnyE_take (i := 36) (v := ?_) (some 86) rfl rfl (by kernel_rfl) (by kernel_rfl) (by kernel_rfl) (fun _ _ _ h => h) ?_ ?_
  rotate_left 1
  · (refine Or.inl ⟨by rfl, ?_⟩; intro w' hw'; have hq := below_via hcur hw'; have hq_e0 := Ext.trans e0 hw'; (try go_simp); (try rfl); done)
  try simp only [Act.put, List.setIfInBounds_toArray, List.set_cons_zero, List.set_cons_succ]
  refine wpAnyE_take (i := 37) (v := ?_) (some 87) rfl rfl (by kernel_rfl) (by kernel_rfl) (by kernel_rfl) (fun _ _ _ h => h) ?_ ?_
  rotate_left 1
  · (refine Or.inl ⟨by rfl, ?_⟩; intro w' hw'; have hq := below_via hcur hw'; have hq_e0 := Ext.trans e0 hw'; (try go_simp); (try rfl); done)
  try simp only [Act.put, List.setIfInBounds_toArray, List.set_cons_zero, List.set_cons_succ]
  refine wpAnyE_take (i := 38) (v := ?_) (some 88) rfl rfl (by kernel_rfl) (by kernel_rfl) (by kernel_rfl) (fun _ _ _ h => h) ?_ ?_
  rotate_left 1
  · (refine Or.inl ⟨by rfl, ?_⟩; intro w' hw'; have hq := below_via hcur hw'; have hq_e0 := Ext.trans e0 hw'; (try go_simp); (try rfl); done)
  try simp only [Act.put, List.setIfInBounds_toArray, List.set_cons_zero, List.set_cons_succ]
  refine wpAnyE_take (i := 39) (v := ?_) (some 89) rfl rfl (by kernel_rfl) (by kernel_rfl) (by kernel_rfl) (fun _ _ _ h => h) ?_ ?_
  rotate_left 1
  · (refine Or.inl ⟨by rfl, ?_⟩; intro w' hw'; have hq := below_via hcur hw'; have hq_e0 := Ext.trans e0 hw'; (try go_simp); (try rfl); done)
  try simp only [Act.put, List.setIfInBounds_toArray, List.set_cons_zero, List.set_cons_succ]
  refine wpAnyE_take (i := 40) (v := ?_) (some 90) rfl rfl (by kernel_rfl) (by kernel_rfl) (by kernel_rfl) (fun _ _ _ h => h) ?_ ?_
  rotate_left 1
  · (refine Or.inl ⟨by rfl, ?_⟩; intro w' hw'; have hq := below_via hcur hw'; have hq_e0 := Ext.trans e0 hw'; (refine arr_dg.exAt (g4 _ hq_e0) lab (.tmp 89) ?_ ?_ <;> rfl))
  try simp only [Act.put, List.setIfInBounds_toArray, List.set_cons_zero, List.set_cons_succ]
  refine wpAnyE_take (i := 41) (v := ?_) (some 91) rfl rfl (by kernel_rfl) (by kernel_rfl) (by kernel_rfl) (fun _ _ _ h => h) ?_ ?_
  rotate_left 1
  · (refine Or.inl ⟨by rfl, ?_⟩; intro w' hw'; have hq := below_via hcur hw'; have hq_e0 := Ext.trans e0 hw'; (refine arr_dg.ex (rX10.below hq_e0) lab (.tmp 11) ?_ ?_ <;> rfl))
  try simp only [Act.put, List.setIfInBounds_toArray, List.set_cons_zero, List.set_cons_succ]
  refine wpAnyE_take (i := 42) (v := ?_) (some 92) rfl rfl (by kernel_rfl) (by kernel_rfl) (by kernel_rfl) (fun _ _ _ h => h) ?_ ?_
  rotate_left 1
  · (refine Or.inl ⟨by rfl, ?_⟩; intro w' hw'; have hq := below_via hcur hw'; have hq_e0 := Ext.trans e0 hw'; (try go_simp); (try rfl); done)
  try simp only [Act.put, List.setIfInBounds_toArray, List.set_cons_zero, List.set_cons_succ]
  refine wpAnyE_take (i := 43) (v := ?_) (some 93) rfl rfl (by kernel_rfl) (by kernel_rfl) (by kernel_rfl) (fun _ _ _ h => h) ?_ ?_
  rotate_left 1
  · (refine Or.inl ⟨by rfl, ?_⟩; intro w' hw'; have hq := below_via hcur hw'; have hq_e0 := Ext.trans e0 hw'; (try go_simp); (try rfl); done)
  try simp only [Act.put, List.setIfInBounds_toArray, List.set_cons_zero, List.set_cons_succ]
  refine wpAnyE_take (i := 44) (v := ?_) (some 94) rfl rfl (by kernel_rfl) (by kernel_rfl) (by kernel_rfl) (fun _ _ _ h => h) ?_ ?_
  rotate_left 1
  · (refine Or.inl ⟨by rfl, ?_⟩; intro w' hw'; have hq := below_via hcur hw'; have hq_e0 := Ext.trans e0 hw'; (try go_simp); (try rfl); done)
  try simp only [Act.put, List.setIfInBounds_toArray, List.set_cons_zero, List.set_cons_succ]
  refine wpAnyE_take (i := 45) (v := ?_) (some 95) rfl rfl (by kernel_rfl) (by kernel_rfl) (by kernel_rfl) (fun _ _ _ h => h) ?_ ?_
  rotate_left 1
  · (refine Or.inl ⟨by rfl, ?_⟩; intro w' hw'; have hq := below_via hcur hw'; have hq_e0 := Ext.trans e0 hw'; (try go_simp); (try rfl); done)
  try simp only [Act.put, List.setIfInBounds_toArray, List.set_cons_zero, List.set_cons_succ]
  refine wpAnyE_take (i := 47) (v := ?_) (some 97) rfl rfl (by kernel_rfl) (by kernel_rfl) (by kernel_rfl) (fun _ _ _ h => h) ?_ ?_
  rotate_left 1
  · (refine Or.inl ⟨by rfl, ?_⟩; intro w' hw'; have hq := below_via hcur hw'; have hq_e0 := Ext.trans e0 hw'; (refine arr_dg.ex (rX10.below hq_e0) lab (.tmp 11) ?_ ?_ <;> rfl))
  try simp only [Act.put, List.setIfInBounds_toArray, List.set_cons_zero, List.set_cons_succ]
  refine wpAnyE_take (i := 48) (v := ?_) (some 98) rfl rfl (by kernel_rfl) (by kernel_rfl) (by kernel_rfl) (fun _ _ _ h => h) ?_ ?_
  rotate_left 1
  · (refine Or.inl ⟨by rfl, ?_⟩; intro w' hw'; have hq := below_via hcur hw'; have hq_e0 := Ext.trans e0 hw'; (refine arr_dg.ex (rC10.below hq_e0) lc (.tmp 3) ?_ ?_ <;> rfl))
  try simp only [Act.put, List.setIfInBounds_toArray, List.set_cons_zero, List.set_cons_succ]
  refine wpAnyE_one (i := 46) rfl (by kernel_rfl) (by rfl) (fun K hK => ?_)
  go_simp
  (with_reducible refine (hroot _ e0).mono ?_); rintro e w12 ⟨rfl, hb⟩
  refine hK.out _ _ hb ?_
  replace hcur := below_via hcur hb; clear hK K
  replace e0 := Ext.trans e0 hb
  try simp only [Act.put, List.setIfInBounds_toArray, List.set_cons_zero, List.set_cons_succ]
  refine wpAnyE_one (i := 49) rfl (by kernel_rfl) (by rfl) (fun K hK => ?_)
  go_simp
  (with_reducible refine (hndc _).mono ?_); rintro e w13 ⟨rfl, hb⟩
  refine hK.out _ _ hb ?_
  replace hcur := below_via hcur hb; clear hK K
  replace e0 := Ext.trans e0 hb
  try simp only [Act.put, List.setIfInBounds_toArray, List.set_cons_zero, List.set_cons_succ]
  refine wpAnyE_take (i := 50) (v := ?_) (some 100) rfl rfl (by kernel_rfl) (by kernel_rfl) (by kernel_rfl) (fun _ _ _ h => h) ?_ ?_
  rotate_left 1
  · (refine Or.inl ⟨by rfl, ?_⟩; intro w' hw'; have hq := below_via hcur hw'; have hq_e0 := Ext.trans e0 hw'; (try go_simp); (try rfl); done)
  try simp only [Act.put, List.setIfInBounds_toArray, List.set_cons_zero, List.set_cons_succ]
  refine wpAnyE_take (i := 51) (v := ?_) (some 101) rfl rfl (by kernel_rfl) (by kernel_rfl) (by kernel_rfl) (fun _ _ _ h => h) ?_ ?_
  rotate_left 1
  · (refine Or.inl ⟨by rfl, ?_⟩; intro w' hw'; have hq := below_via hcur hw'; have hq_e0 := Ext.trans e0 hw'; (try go_simp); (try rfl); done)
  try simp only [Act.put, List.setIfInBounds_toArray, List.set_cons_zero, List.set_cons_succ]
  refine wpAnyE_take (i := 52) (v := ?_) (some 102) rfl rfl (by kernel_rfl) (by kernel_rfl) (by kernel_rfl) (fun _ _ _ h => h) ?_ ?_
  rotate_left 1
  · (refine Or.inl ⟨by rfl, ?_⟩; intro w' hw'; have hq := below_via hcur hw'; have hq_e0 := Ext.trans e0 hw'; (try go_simp); (try rfl); done)
  try simp only [Act.put, List.setIfInBounds_toArray, List.set_cons_zero, List.set_cons_succ]
  refine wpAnyE_take (i := 53) (v := ?_) (some 103) rfl rfl (by kernel_rfl) (by kernel_rfl) (by kernel_rfl) (fun _ _ _ h => h) ?_ ?_
  rotate_left 1
  · (refine Or.inl ⟨by rfl, ?_⟩; intro w' hw'; have hq := below_via hcur hw'; have hq_e0 := Ext.trans e0 hw'; (try go_simp); (try rfl); done)
  try simp only [Act.put, List.setIfInBounds_toArray, List.set_cons_zero, List.set_cons_succ]
  refine wpAnyE_one (i := 54) rfl (by kernel_rfl) (by rfl) (fun K hK => ?_)
  go_simp
  (with_reducible refine (hsize _ e0).mono ?_); rintro e w14 ⟨rfl, rfl⟩
  refine hK.out _ _ (Ext.refl _) ?_
  clear hK K
  try simp only [Act.put, List.setIfInBounds_toArray, List.set_cons_zero, List.set_cons_succ]
  refine wpAnyE_take (i := 55) (v := ?_) (some 105) rfl rfl (by kernel_rfl) (by kernel_rfl) (by kernel_rfl) (fun _ _ _ h => h) ?_ ?_
  rotate_left 1
  · (refine Or.inl ⟨by rfl, ?_⟩; intro w' hw'; have hq := below_via hcur hw'; have hq_e0 := Ext.trans e0 hw'; (try go_simp); (try rfl); done)
  try simp only [Act.put, List.setIfInBounds_toArray, List.set_cons_zero, List.set_cons_succ]
  refine wpAnyE_take (i := 56) (v := ?_) (some 106) rfl rfl (by kernel_rfl) (by kernel_rfl) (by kernel_rfl) (fun _ _ _ h => h) ?_ ?_
  rotate_left 1
  · (refine Or.inl ⟨by rfl, ?_⟩; intro w' hw'; have hq := below_via hcur hw'; have hq_e0 := Ext.trans e0 hw'; (try go_simp); (try rfl); done)
  try simp only [Act.put, List.setIfInBounds_toArray, List.set_cons_zero, List.set_cons_succ]
  refine wpAnyE_done (by kernel_rfl) ?_ _
  have s5 := s4.below e0
  have hr13 := hr10.below e0
  clear hroot hsize g2 g4 rX10 rC10 s210 s4 hr10 e0 hndc bz10
  have z13 := hcur.size
  go_wp2_with fail
  refine (rg_from (.slice (some ad4) 2 c4) [ab, c] w13 3 s5 (by omega) rfl).mono ?_; rintro e w14 ⟨q, v6, rfl, hs14, b14⟩
  have hr14 := hr13.below b14
  have bz14 := Ext.trans hcur b14
  clear hr13 hcur b14 s5
  go_wp2_with fail
  refine (from_other (some ad4) 2 c4 w14 2 (by omega) (by decide)).mono ?_; rintro e w15 ⟨rfl, rfl⟩
  have ho1 := rg_root hs14
  rw [head2] at ho1
  rw [hh.out] at ho1
  have q3 := eql_dg_self hd lnc
  go_wp2_with fail
  refine ho1.mono ?_; rintro e w16 ⟨rfl, b16⟩
  have ho2 := rg_root (hr14.below b16)
  rw [head2, hh.out] at ho2
  go_wp2_with fail
  refine ho2.mono ?_; rintro e w17 ⟨rfl, b17⟩
  go_wp2_with fail
  go_ret
  exact ⟨rfl, Ext.trans bz14 (Ext.trans b16 b17)⟩
end Go.Proofs.Ytcaaeimcieooiaa
