/- Node of the program and of the reference (walks). -/
import Derived.Test.YtcaaeimcieooiaaMerW
set_option linter.unusedVariables false
set_option linter.unusedSimpArgs false
namespace Go.Proofs.Ytcaaeimcieooiaa
open Go.RowKit
attribute [local go_sem high] dg_cells

def zer65 : List UInt8 := List.replicate 65 0
theorem put_node (a b : List UInt8) (ha : a.length = 32) (hb : b.length = 32) : put (put (zer65.set 0 1) 1 a) 33 b = 1 :: (a ++ b) := by
  unfold put
  have e1 : ((zer65.set 0 1).take 1 ++ a ++ (zer65.set 0 1).drop (1 + a.length)).take 33 = 1 :: a := by
    have : (zer65.set 0 1).take 1 = [1] := rfl
    rw [this, List.take_append_of_le_length (by simp [ha])]
    exact List.take_of_length_le (by simp [ha])
  have e2 : ((zer65.set 0 1).take 1 ++ a ++ (zer65.set 0 1).drop (1 + a.length)).drop (33 + b.length) = [] := by
    apply List.drop_eq_nil_of_le; simp [ha, hb, zer65]
  rw [e1, e2, List.append_nil]; rfl
theorem alloc4 {w W : World} {o1 o2 o3 o4 : Obj} (hW : (((w.alloc o1).alloc o2).alloc o3).alloc o4 = W) : W.heap[w.heap.size]? = some o1 ∧ W.heap[w.heap.size + 1]? = some o2 ∧ W.heap[w.heap.size + 2]? = some o3 ∧ W.heap[w.heap.size + 3]? = some o4 ∧ Below w.heap.size w W ∧ W.heap.size = w.heap.size + 4 := by
  obtain ⟨h1, h2, b, z⟩ := alloc2 (w := w) (o1 := o1) (o2 := o2) rfl
  obtain ⟨h3, h4, b', z'⟩ := alloc2 hW
  rw [z] at h3 h4
  refine ⟨?_, ?_, h3, h4, Ext.trans b b', by rw [z', z]⟩
  · exact (b'.block _ (by rw [z]; omega)).trans h1
  · exact (b'.block _ (by rw [z]; omega)).trans h2
theorem zero65 (w : World) : (zeroValue 70).run Try.prog w = .ok (.agg (bs zer65).toArray) w :=
  (zero_of_info (P := Try.prog) (t := 70) (v := .agg (bs zer65).toArray) (n := 65) (by kernel_rfl)).1 w
theorem cell65 (w : World) (o1 o2 o3 : Obj) : ((((w.alloc o1).alloc o2).alloc o3).alloc (.cells (bs zer65).toArray 70 (0, 0))).cell? ⟨w.heap.size + 1 + 1 + 1, 0, none⟩ = some (.int .u8 0) ∧
    ((((w.alloc o1).alloc o2).alloc o3).alloc (.cells (bs zer65).toArray 70 (0, 0))).frozen? ⟨w.heap.size + 1 + 1 + 1, 0, none⟩ = false := by
  obtain ⟨_, _, _, h4, _, _⟩ := alloc4 (w := w) (o1 := o1) (o2 := o2) (o3 := o3) (o4 := .cells (bs zer65).toArray 70 (0, 0)) rfl
  have : RowT 70 _ (w.heap.size + 3) zer65 := h4
  exact this.cell (j := 0) (by decide)
set_option maxRecDepth 10000 in
set_option maxHeartbeats 2000000 in
theorem node_any (a b : List UInt8) (ha : a.length = 32) (hb : b.length = 32) (w : World) :
    Calls Try.prog 20 #[dg a, dg b] w fun e w' => e = .returned (dg (nodeL a b)) ∧ Below w.heap.size w w' := by
  have f1 := fun o1 o2 o3 => cell65 w o1 o2 o3
  have hz65 := zero65
  change Calls _ _ #[.agg (bs a).toArray, .agg (bs b).toArray] _ _
  go_enter Try.func20, Try.ntmps20
  go_wp2_with fail
  generalize hX : World.alloc (World.alloc (World.alloc (World.alloc w _) _) _) _ = X
  obtain ⟨h1, h2, h3, h4, bw1, z⟩ := alloc4 hX
  have rA1 : RowT 29 X w.heap.size a := h1
  have rB1 : RowT 29 X (w.heap.size + 1) b := h2
  have rR1 : RowT 29 X (w.heap.size + 1 + 1) zer := h3
  have rT1 : RowT 70 X (w.heap.size + 1 + 1 + 1) (zer65.set 0 1) := h4
  clear hX f1 z h1 h2 h3 h4
  have hp1 : (put (zer65.set 0 1) 1 a).length = 65 := by unfold put; simp [zer65, ha]
  have hp2 := put_node a b ha hb
  have hl0 : (zer65.set 0 1).length = 65 := rfl
  have rdA : RdB X.drew (some ⟨w.heap.size, 0, none⟩) a := by
    obtain ⟨A0, c0, e, _, _, _, h⟩ := rA1.sl (by rw [ha]; decide)
    injection e with e _ _; rw [e]; exact h
  have kc1 := copy_into (w := X.drew) rT1 1 64 32 (cap := 64) (c := 32) rdA ha.symm rfl (by rw [ha, hl0]; decide) (Nat.le_refl _)
  have rT2 : RowT 70 (X.drew.setRow (w.heap.size + 1 + 1 + 1) (bs (put (zer65.set 0 1) 1 a)).toArray) (w.heap.size + 1 + 1 + 1) (put (zer65.set 0 1) 1 a) := RowT.setRow (w := X.drew) rT1 _
  have rB2 : RowT 29 (X.drew.setRow (w.heap.size + 1 + 1 + 1) (bs (put (zer65.set 0 1) 1 a)).toArray) (w.heap.size + 1) b := RowT.other (w := X.drew) rB1 (by omega) _
  have rR2 : RowT 29 (X.drew.setRow (w.heap.size + 1 + 1 + 1) (bs (put (zer65.set 0 1) 1 a)).toArray) (w.heap.size + 1 + 1) zer := RowT.other (w := X.drew) rR1 (by omega) _
  have bw2 : Below w.heap.size w (X.drew.setRow (w.heap.size + 1 + 1 + 1) (bs (put (zer65.set 0 1) 1 a)).toArray) := below_setRow bw1.drew (by omega) _
  have rdB : RdB (X.drew.setRow (w.heap.size + 1 + 1 + 1) (bs (put (zer65.set 0 1) 1 a)).toArray) (some ⟨w.heap.size + 1, 0, none⟩) b := by
    obtain ⟨A0, c0, e, _, _, _, h⟩ := rB2.sl (by rw [hb]; decide)
    injection e with e _ _; rw [e]; exact h
  have kc2 := copy_into rT2 33 32 32 (cap := 32) (c := 32) rdB hb.symm (by rw [hp1]) (by rw [hp1, hb]; decide) (Nat.le_refl _)
  rw [hp2] at kc2
  have rT3 := rT2.setRow (1 :: (a ++ b))
  have rR3 := rR2.other (B := w.heap.size + 1 + 1) (D := w.heap.size + 1 + 1 + 1) (by omega) (bs (1 :: (a ++ b))).toArray
  have bw3 : Below w.heap.size w _ := below_setRow bw2 (show w.heap.size ≤ w.heap.size + 1 + 1 + 1 by omega) (bs (1 :: (a ++ b))).toArray
  have w33 : IntKind.i64.wrap 33 = 33 := by decide
  refine wp_region_T (by kernel_rfl) ?_
  refine wpAnyT_take (i := 0) (v := ?_) (some 7) rfl rfl (by kernel_rfl) (by kernel_rfl) (by kernel_rfl) (fun _ _ _ h => h) ?_ ?_
  rotate_left 1
  · (refine Or.inl ⟨by rfl, ?_⟩; intro w' _; (try go_simp); (try rfl); done)
  try simp only [Act.put, List.setIfInBounds_toArray, List.set_cons_zero, List.set_cons_succ]
  refine wpAnyT_take (i := 1) (v := ?_) (some 8) rfl rfl (by kernel_rfl) (by kernel_rfl) (by kernel_rfl) (fun _ _ _ h => h) ?_ ?_
  rotate_left 1
  · (refine Or.inl ⟨by rfl, ?_⟩; intro w' _; (try go_simp); (try rfl); done)
  try simp only [Act.put, List.setIfInBounds_toArray, List.set_cons_zero, List.set_cons_succ]
  refine wpAnyT_take (i := 5) (v := ?_) (some 12) rfl rfl (by kernel_rfl) (by kernel_rfl) (by kernel_rfl) (fun _ _ _ h => h) ?_ ?_
  rotate_left 1
  · (refine Or.inl ⟨by rfl, ?_⟩; intro w' _; (try go_simp); (try rfl); done)
  try simp only [Act.put, List.setIfInBounds_toArray, List.set_cons_zero, List.set_cons_succ]
  refine wpAnyT_one (i := 2) rfl (by kernel_rfl) (by rfl) (fun K hK => ?_)
  go_simp
  refine hK.out _ _ ?_
  clear hK K
  try simp only [Act.put, List.setIfInBounds_toArray, List.set_cons_zero, List.set_cons_succ]
  refine wpAnyT_take (i := 3) (v := ?_) (some 10) rfl rfl (by kernel_rfl) (by kernel_rfl) (by kernel_rfl) (fun _ _ _ h => h) ?_ ?_
  rotate_left 1
  · (refine Or.inl ⟨by rfl, ?_⟩; intro w' _; (try go_simp); (try rfl); done)
  try simp only [Act.put, List.setIfInBounds_toArray, List.set_cons_zero, List.set_cons_succ]
  refine wpAnyT_take (i := 4) (v := ?_) (some 11) rfl rfl (by kernel_rfl) (by kernel_rfl) (by kernel_rfl) (fun _ _ _ h => h) ?_ ?_
  rotate_left 1
  · (refine Or.inl ⟨by rfl, ?_⟩; intro w' _; (try go_simp); (try rfl); done)
  try simp only [Act.put, List.setIfInBounds_toArray, List.set_cons_zero, List.set_cons_succ]
  refine wpAnyT_one (i := 6) rfl (by kernel_rfl) (by rfl) (fun K hK => ?_)
  go_simp
  refine hK.out _ _ ?_
  clear hK K
  try simp only [Act.put, List.setIfInBounds_toArray, List.set_cons_zero, List.set_cons_succ]
  refine wpAnyT_done (by kernel_rfl) ?_ _
  have hl65 : (1 :: (a ++ b)).length = 65 := by simp [ha, hb]
  generalize ((X.drew.setRow (w.heap.size + 1 + 1 + 1) (bs (put (zer65.set 0 1) 1 a)).toArray).setRow (w.heap.size + 1 + 1 + 1) (bs (1 :: (a ++ b))).toArray) = Y at *
  clear kc1 kc2 rT2 rB2 rR2 bw2 rdA rdB rT1 rA1 rB1 rR1 bw1 hp1 hp2 hz65
  have s3 := rT3.sl (by rw [hl65]; decide)
  rw [hl65] at s3
  have hsum := shaSum_any _ _ Y s3 (by rw [hl65]; decide)
  have hdl := nodeL_length a b
  have hnd : sha (1 :: (a ++ b)) = nodeL a b := rfl
  rw [hnd] at hsum
  generalize hdd : nodeL a b = dd at *
  replace hdd : Hid _ := hdd
  clear hnd s3 rT3
  go_wp2_with fail
  refine hsum.mono ?_
  rintro e w5 ⟨rfl, b5⟩
  have r5 := rR3.below b5
  have hret := arr_dg.loadVar (r5.setRow dd) hdl
  have bz := below_setRow (Below.trans bw3 (b5.mono bw3.size)) (show w.heap.size ≤ w.heap.size + 1 + 1 by omega) (bs dd).toArray
  go_wp2_with ((with_reducible refine at_store ?_); refine arr_dg.storeL r5 zer_length rfl hdl _ _ rfl rfl rfl ?_)
  exact ret_cell (v := dg dd) Try.results20 rfl hret rfl ⟨by rw [hdd.out], bz⟩
set_option maxRecDepth 10000 in
set_option maxHeartbeats 2000000 in
theorem rnode_any (a b : List UInt8) (ha : a.length = 32) (hb : b.length = 32) (w : World) :
    Calls Try.prog 22 #[dg a, dg b] w fun e w' => e = .returned (dg (nodeL a b)) ∧ Below w.heap.size w w' := by
  obtain ⟨W, hW⟩ : ∃ W, ((w.alloc (.cells (bs a).toArray 29 (0, 0))).alloc (.cells (bs b).toArray 29 (0, 0))).alloc (.cells (bs zer).toArray 29 (0, 0)) = W := ⟨_, rfl⟩
  obtain ⟨h1, h2, h3, bw, z⟩ := alloc3 hW
  have rA : RowT 29 W w.heap.size a := h1
  have rB : RowT 29 W (w.heap.size + 1) b := h2
  have rR : RowT 29 W (w.heap.size + 1 + 1) zer := h3
  have o1 := own_one W 1 (w.heap.size + 1 + 1 + 1) (by omega)
  have b1 := ext_alloc W (.cells #[.int .u8 (c8 1)] 5)
  have sA := (rA.below b1).sl (by rw [ha]; decide)
  rw [ha] at sA
  have rB1 := rB.below b1
  have rR1 := rR.below b1
  have bw1 := Below.trans bw (b1.mono bw.size)
  have z1 := size_alloc W (.cells #[.int .u8 (c8 1)] 5)
  rw [z] at o1 z1
  rw [← hW] at o1 sA rB1 rR1 bw1 z1
  clear h1 h2 h3 rA rB rR bw b1 hW
  change Calls _ _ #[.agg (bs a).toArray, .agg (bs b).toArray] _ _
  go_enter Try.func22, Try.ntmps22
  go_wp2_with (at_builtin; go_loud (refine wpl_apB (B := w.heap.size + 1 + 1 + 1) rfl _ _ rfl rfl o1 rfl sA (by simp; omega) (by simp) ?_))
  intro v2 w2 h2 b2
  have rB2 : RowT 29 w2 (w.heap.size + 1) b := (b2.block (w.heap.size + 1) (by omega)).trans rB1
  have rR2 : RowT 29 w2 (w.heap.size + 1 + 1) zer := (b2.block (w.heap.size + 1 + 1) (by omega)).trans rR1
  have bw2 := Below.trans bw1 (b2.mono (by omega))
  have z2 : w.heap.size + 1 + 1 + 1 ≤ w2.heap.size := by have := b2.size; simp at this; omega
  have sB := rB2.sl (by rw [hb]; decide)
  rw [hb] at sB
  have h2' : OwB (w.heap.size + 1 + 1 + 1) w2 v2 (1 :: a) := h2
  clear h2 b2 rB1 rR1 bw1 o1 sA
  go_wp2_with (at_builtin; go_loud (refine wpl_apB (B := w.heap.size + 1 + 1 + 1) rfl _ _ rfl rfl h2' rfl sB (by simp; omega) (by omega) ?_))
  intro v3 w3 h3 b3
  have rR3 : RowT 29 w3 (w.heap.size + 1 + 1) zer := (b3.block (w.heap.size + 1 + 1) (by omega)).trans rR2
  have bw3 := Below.trans bw2 (b3.mono (by omega))
  have h3' : SlB w3 v3 (1 :: (a ++ b)) := h3.sl
  clear h3 b3 rB2 rR2 bw2 h2' sB z2
  have hsum := rsum_any _ _ w3 h3' (by simp; omega)
  have hdl := nodeL_length a b
  have hnd : sha (1 :: (a ++ b)) = nodeL a b := rfl
  rw [hnd] at hsum
  generalize hdd : nodeL a b = dd at *
  replace hdd : Hid _ := hdd
  clear hnd h3'
  go_wp2_with fail
  refine hsum.mono ?_
  rintro e w5 ⟨rfl, b5⟩
  have r5 := rR3.below b5
  have hret := arr_dg.loadVar (r5.setRow dd) hdl
  have bz := below_setRow (Below.trans bw3 (b5.mono bw3.size)) (show w.heap.size ≤ w.heap.size + 1 + 1 by omega) (bs dd).toArray
  go_wp2_with ((with_reducible refine at_store ?_); refine arr_dg.storeL r5 zer_length rfl hdl _ _ rfl rfl rfl ?_)
  exact ret_cell (v := dg dd) Try.results22 rfl hret rfl ⟨by rw [hdd.out], bz⟩
end Go.Proofs.Ytcaaeimcieooiaa
