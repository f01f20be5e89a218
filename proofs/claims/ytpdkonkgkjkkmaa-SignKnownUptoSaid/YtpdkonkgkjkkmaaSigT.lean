/- The reference's May, Sign, Id (walks). -/
import Derived.Test.YtpdkonkgkjkkmaaSigS
set_option linter.unusedVariables false
set_option linter.unusedSimpArgs false
namespace Go.Proofs.Ytpdkonkgkjkkmaa
open Go.RowKit
attribute [local go_sem high] dg_cells

theorem rmay_any (v : Value) (k : List UInt8) (w : World) (hv : SlB w v k) :
    Calls Try.prog 18 #[v] w fun e w' => e = .returned (.bool (mayL k)) ∧ w = w' := by
  obtain ⟨A, c, rfl, hc, hcm, hA, hrr⟩ := hv
  by_cases h1 : 1 ≤ k.length
  · by_cases h2 : k.length ≤ 64
    · have hm := (mayL_iff k).2 ⟨h1, h2⟩
      have g1 : (0 : Int) < k.length := by omega
      have g2 : (k.length : Int) ≤ 64 := by omega
      rw [hm]
      go_enter Try.func18, Try.ntmps18
      go_wp2
      go_ret
      exact ⟨rfl, rfl⟩
    · have hm : mayL k = false := by unfold mayL; simp [h2]
      have g1 : (0 : Int) < k.length := by omega
      have g2 : ¬ (k.length : Int) ≤ 64 := by omega
      rw [hm]
      go_enter Try.func18, Try.ntmps18
      go_wp2
      go_ret
      exact ⟨rfl, rfl⟩
  · have hm : mayL k = false := by unfold mayL; simp [h1]
    have g1 : ¬ (0 : Int) < k.length := by omega
    rw [hm]
    go_enter Try.func18, Try.ntmps18
    go_wp2
    go_ret
    exact ⟨rfl, rfl⟩

theorem own_one (w : World) (x : UInt8) (B : Nat) (hB : B ≤ w.heap.size) : OwB B (w.alloc (.cells #[.int .u8 (c8 x)] 5)) (.slice (some ⟨w.heap.size, 0, none⟩) 1 1) [x] :=
  World.ownsRow_lit (base := B) (e := 5) (size := 1) w #[.int .u8 (c8 x)] 1 hB (by decide) rfl

set_option maxHeartbeats 2000000 in
theorem rid_any (vk : Value) (k : List UInt8) (w : World) (hk : SlB w vk k) :
    Calls Try.prog 16 #[vk] w fun e w' => e = .returned (.tuple #[dg (if mayL k then idL k else zer), .int .i64 (if mayL k then 0 else 1)]) ∧ Below w.heap.size w w' := by
  have r0 : RowT 35 (w.alloc (.cells (bs zer).toArray 35 (0, 0))) w.heap.size zer := heap_alloc_new _ _
  have b0 := ext_alloc w (.cells (bs zer).toArray 35 (0, 0))
  have z0 := size_alloc w (.cells (bs zer).toArray 35 (0, 0))
  have hk0 := hk.below b0
  have hmay := rmay_any _ k _ hk0
  obtain ⟨A, c, rfl, _, _, _, _⟩ := hk
  have hretz := arr_dg.loadVar (r0.setRow zer) zer_length
  have bz := below_setRow b0 (Nat.le_refl _) (bs zer).toArray
  by_cases hy : mayL k = true
  · rw [hy] at hmay
    have hkl := (mayL_iff k).1 hy
    simp only [hy, if_true]
    obtain ⟨W1, hW1⟩ : ∃ W1, w.alloc (.cells (bs zer).toArray 35 (0, 0)) = W1 := ⟨_, rfl⟩
    go_enter Try.func16, Try.ntmps16
    go_wp2_with fail
    refine hmay.mono ?_
    rintro e w' ⟨rfl, rfl⟩
    rw [hW1]
    rw [hW1] at r0 b0 z0 hk0
    clear hmay hretz bz
    have ho := own_one W1 0 (w.heap.size + 1) (by omega)
    have b2 := ext_alloc W1 (.cells #[.int .u8 (c8 0)] 5)
    have hk2 := hk0.below b2
    have r2 := r0.below b2
    have bw2 := Ext.trans b0 b2
    have z2 := size_alloc W1 (.cells #[.int .u8 (c8 0)] 5)
    rw [z0] at ho
    go_wp2_with (at_builtin; go_loud (refine wpl_apB (B := w.heap.size + 1) rfl _ _ rfl rfl ho rfl hk2 (by simp; omega) (by rw [size_alloc]; omega) ?_))
    intro v3 w3 h3 b3
    have r3 : RowT 35 w3 w.heap.size zer := (b3.block w.heap.size (by omega)).trans r2
    have bw3 := Below.trans bw2 (b3.mono (by omega))
    replace h3 := h3.sl
    go_wp2_with fail
    refine (rsum_any _ _ _ h3 (by simp; omega)).mono ?_
    rintro e w4 ⟨rfl, b4⟩
    have r4 := r3.below b4
    have bw4 := Ext.trans bw3 b4
    have hdl : (sha (0 :: k)).length = 32 := sha_length _
    have hid : Hid (idL k = sha (0 :: k)) := rfl
    generalize sha (0 :: k) = dd at *
    have hret := arr_dg.loadVar (r4.setRow dd) hdl
    have bz := below_setRow bw4 (Nat.le_refl _) (bs dd).toArray
    go_wp2_with (refine arr_dg.storeL r4 zer_length rfl hdl _ _ rfl rfl rfl ?_)
    exact ret_cell2 (v := dg dd) Try.results16 rfl hret rfl ⟨by rw [hid.out]; rfl, bz⟩
  · rw [Bool.not_eq_true] at hy
    rw [hy] at hmay
    simp only [hy, Bool.false_eq_true, if_false]
    go_enter Try.func16, Try.ntmps16
    go_wp2_with fail
    refine hmay.mono ?_
    rintro e w' ⟨rfl, rfl⟩
    go_wp2_with (refine arr_dg.storeL r0 zer_length rfl zer_length _ _ rfl rfl rfl ?_)
    exact ret_cell2 (v := dg zer) Try.results16 rfl hretz rfl ⟨rfl, bz⟩

/-- A signature that is filled from both sides. -/
def fillS (a b : List UInt8) (k : Nat) : List UInt8 := (a.take k ++ List.replicate (32 - k) 0) ++ (b.take k ++ List.replicate (32 - k) 0)
theorem fillS_length (a b : List UInt8) (k : Nat) (ha : a.length = 32) (hb : b.length = 32) (hk : k ≤ 32) : (fillS a b k).length = 64 := by
  unfold fillS; simp [ha, hb]; omega
theorem fillS_step (a b : List UInt8) (k : Nat) (ha : a.length = 32) (hb : b.length = 32) (hk : k < 32) : ((fillS a b k).set k (a.getD k 0)).set (32 + k) (b.getD k 0) = fillS a b (k + 1) := by
  have h1 := set_fill a k (by omega)
  have h2 := set_fill b k (by omega)
  rw [ha] at h1; rw [hb] at h2
  unfold fillS
  have l1 : (a.take k ++ List.replicate (32 - k) 0).length = 32 := by simp [ha]; omega
  rw [List.set_append_left _ _ (by omega), h1]
  have l2 : (a.take (k + 1) ++ List.replicate (32 - (k + 1)) 0).length = 32 := by simp [ha]; omega
  rw [List.set_append_right _ _ (by omega), l2, Nat.add_sub_cancel_left, h2]
theorem fillS_zero (a b : List UInt8) : fillS a b 0 = zer64 := rfl
theorem fillS_end (a b : List UInt8) (ha : a.length = 32) (hb : b.length = 32) : fillS a b 32 = a ++ b := by
  unfold fillS; rw [List.take_of_length_le (by omega), List.take_of_length_le (by omega)]; simp

theorem Ext.trans' {a b c : World} {n : Nat} (h : Ext a b) (k : Below n b c) (hn : a.heap.size = n) : Ext a c := by
  subst hn; exact Below.trans h k
set_option maxRecDepth 10000 in
set_option maxHeartbeats 4000000 in
theorem rsign_any (vk vm : Value) (k m : List UInt8) (w : World) (hk : SlB w vk k) (hm : SlB w vm m) (hml : m.length ≤ 1073741824) :
    Calls Try.prog 14 #[vk, vm] w fun e w' => e = .returned (.tuple #[dg (if mayL k then sigL k m else zer64), .int .i64 (if mayL k then 0 else 1)]) ∧ Below w.heap.size w w' := by
  obtain ⟨W2, hW⟩ : ∃ W2, (w.alloc (.cells (bs zer64).toArray 22 (0, 0))).alloc (.cells (bs zer64).toArray 22 (0, 0)) = W2 := ⟨_, rfl⟩
  obtain ⟨h1, h2, b2, z2⟩ := alloc2 hW
  have r1 : RowT 22 W2 w.heap.size zer64 := h1
  have r2 : RowT 22 W2 (w.heap.size + 1) zer64 := h2
  have hretz := arr_sg.loadVar (r1.setRow zer64) zer64_length
  have bz := below_setRow b2 (Nat.le_refl _) (bs zer64).toArray
  have hk2 := hk.below b2
  have hm2 := hm.below b2
  obtain ⟨A, c, rfl, hc, hcm, hA, hrr⟩ := hk
  obtain ⟨A', c', rfl, hc', hcm', hA', hrr'⟩ := hm
  have hmay := rmay_any _ k W2 hk2
  by_cases hy : mayL k = true
  · rw [hy] at hmay
    have hkl := (mayL_iff k).1 hy
    simp only [hy, if_true]
    go_enter Try.func14, Try.ntmps14
    go_wp2_with fail
    refine (show Calls Try.prog 18 _ _ _ from (by rw [← hW] at hmay; exact hmay)).mono ?_
    rw [hW]
    rintro e w' ⟨rfl, rfl⟩
    have w8 : IntKind.u8.wrap (k.length : Int) = c8 (UInt8.ofNat k.length) := wrap_c8 _
    clear hW h1 h2 hmay hretz bz hrr hrr'
    obtain ⟨nb, hnb⟩ : ∃ nb, nb = UInt8.ofNat k.length := ⟨_, rfl⟩
    have htl : tailL k m = nb :: (k ++ m) := by rw [hnb]; rfl
    rw [← hnb] at w8
    replace htl : Hid _ := htl
    clear hnb
    have b3 := ext_alloc W2 (.cells #[.int .u8 (c8 nb)] 5)
    have z3 := size_alloc W2 (.cells #[.int .u8 (c8 nb)] 5)
    have s3 := slB_one W2 nb 5 (0, 0)
    rw [z2] at s3
    go_wp2_with (at_builtin; go_loud (refine wpl_apB (B := w.heap.size + 2) (xs := []) rfl _ _ rfl rfl (OwB.nil _ _) rfl s3 (by simp) (by omega) ?_))
    intro v4 w4 h4 b4
    have e4 : Below (w.heap.size + 2) W2 w4 := by
      have := b3; unfold Ext at this; rw [z2] at this; exact this.trans b4
    have z4 := e4.size
    go_wp2_with (at_builtin; go_loud (refine wpl_apB (B := w.heap.size + 2) rfl _ _ rfl rfl h4 rfl (hk2.below (by rw [z2]; exact e4)) (by simp; omega) (by omega) ?_))
    intro v5 w5 h5 b5
    have e5 := e4.trans b5
    have z5 := e5.size
    go_wp2_with (at_builtin; go_loud (refine wpl_apB (B := w.heap.size + 2) rfl _ _ rfl rfl h5 rfl (hm2.below (by rw [z2]; exact e5)) (by simp; omega) (by omega) ?_))
    intro v6 w6 h6 b6
    rw [← htl.out] at h6
    have htlen : (tailL k m).length ≤ 1073741824 + 65 := by rw [htl.out]; simp; omega
    generalize htl2 : tailL k m = tl at *
    replace htl2 : Hid _ := htl2
    have e6 := e5.trans b6
    have z6 := e6.size
    clear h4 h5 b3 b4 b5 b6 e4 e5 z3 z4 z5
    have r16 : RowT 22 w6 w.heap.size zer64 := (e6.block w.heap.size (by omega)).trans r1
    have r26 : RowT 22 w6 (w.heap.size + 1) zer64 := (e6.block (w.heap.size + 1) (by omega)).trans r2
    have bw6 := b2.trans (e6.mono (by omega))
    replace h6 := h6.sl
    have o7 := own_one w6 1 w6.heap.size (Nat.le_refl _)
    have b7 := ext_alloc w6 (.cells #[.int .u8 (c8 1)] 5)
    go_wp2_with (at_builtin; go_loud (refine wpl_apB (B := w6.heap.size) rfl _ _ rfl rfl o7 rfl (h6.below b7) (by simp; omega) (by rw [size_alloc]; omega) ?_))
    intro v8 w8 h8 b8
    have b68 : Ext w6 w8 := Below.trans b7 b8
    have h8' : SlB w8 v8 (1 :: tl) := h8.sl
    go_wp2_with fail
    refine (rsum_any _ (1 :: tl) _ h8' (by simp; omega)).mono ?_
    rintro e w9 ⟨rfl, b9⟩
    have b69 := Ext.trans b68 b9
    have hda : (sha (1 :: tl)).length = 32 := sha_length _
    have hsA : Hid (sigA k m = sha (1 :: tl)) := by unfold Hid sigA; rw [htl2.out]
    generalize sha (1 :: tl) = da at *
    have bA := ext_alloc w9 (.cells (bs da).toArray 35 (0, 0))
    have rA : RowT 35 (w9.alloc (.cells (bs da).toArray 35 (0, 0))) w9.heap.size da := heap_alloc_new _ _
    have b610 := Ext.trans b69 bA
    have h610 := h6.below b610
    have r110 := r16.below b610
    have r210 := r26.below b610
    have bw10 := Below.trans bw6 (b610.mono bw6.size)
    have z10 := size_alloc w9 (.cells (bs da).toArray 35 (0, 0))
    have z69 := b69.size
    clear o7 b7 b8 b68 h8 h8' b9 b69 bA b610 r16 r26 bw6 h6
    go_wp2_with (refine arr_dg.store_newL zer_length rfl hda _ _ rfl rfl rfl ?_)
    obtain ⟨W10, hW10⟩ : ∃ W10, w9.alloc (.cells (bs da).toArray 35 (0, 0)) = W10 := ⟨_, rfl⟩
    rw [hW10] at rA h610 r110 r210 bw10 z10
    have o11 := own_one W10 2 W10.heap.size (Nat.le_refl _)
    have b11 := ext_alloc W10 (.cells #[.int .u8 (c8 2)] 5)
    rw [z10] at o11
    rw [hW10]
    go_loopw [9, 10] (fun v i wr => ∃ j : Nat, j ≤ 32 ∧ i = .int .i64 j ∧ OwB (w9.heap.size + 1) wr v (2 :: da.take j) ∧ Ext W10 wr) (fun _ i _ => 32 - (intOf i).toNat)
    case atStart => exact ⟨0, by omega, rfl, o11, b11⟩
    case round =>
      clear o11 b11
      obtain ⟨j, hj, rfl, ho, bX⟩ := hrel
      have zX := bX.size
      by_cases h32 : j < 32
      · have hc := (rA.below bX).cell (j := j) (by omega)
        have htk : da.take (j + 1) = da.take j ++ [da.getD j 0] := by
          rw [List.take_succ_eq_append_getElem (by omega)]; simp [show j < da.length by omega]
        have hlk : (2 :: da.take j).length = j + 1 := by simp; omega
        generalize da.getD j 0 = y at hc htk
        go_wp2_with (at_builtin; go_loud (refine wpl_apB (B := w9.heap.size + 1) rfl _ _ rfl rfl (ho.below (ext_alloc _ _)) rfl (slB_one _ y _ _) (by rw [hlk]; simp; omega) (by rw [size_alloc]; omega) ?_))
        intro v2 w2 h2 b2
        rw [← htk] at h2
        have b3 : Ext W10 w2 := by
          have := (Below.refl _ wr).alloc (by omega : w9.heap.size + 1 ≤ wr.heap.size) (.cells #[.int .u8 (c8 y)] 5)
          have := bX.trans' (this.trans b2) z10
          exact this
        go_wp2_with fail
        go_roundw
        case rel => exact ⟨j + 1, by omega, by go_num, h2, b3⟩
        case measure => simp [intOf]; omega
      · obtain rfl : j = 32 := by omega
        rw [List.take_of_length_le (by omega)] at ho
        have h6X := h610.below bX
        have rAX := rA.below bX
        have r1X := r110.below bX
        have r2X := r210.below bX
        have bwX := Below.trans bw10 (bX.mono bw10.size)
        have zwX := bwX.size
        clear rA h610 r110 r210 bw10 bX
        have hl2 : (2 :: da).length = 33 := by simp [hda]
        go_wp2_with (at_builtin; go_loud (refine wpl_apB (B := w9.heap.size + 1) rfl _ _ rfl rfl ho rfl h6X (by rw [hl2]; omega) (by omega) ?_))
        intro vB wB hB bB
        have hB' : SlB wB vB (2 :: (da ++ tl)) := hB.sl
        have rAB : RowT 35 wB w9.heap.size da := (bB.block w9.heap.size (by omega)).trans rAX
        have r1B : RowT 22 wB w.heap.size zer64 := (bB.block w.heap.size (by omega)).trans r1X
        have r2B : RowT 22 wB (w.heap.size + 1) zer64 := (bB.block (w.heap.size + 1) (by omega)).trans r2X
        have bwB := Below.trans bwX (bB.mono (by omega))
        clear h6X rAX r1X r2X bwX bB hB ho
        go_wp2_with fail
        refine (rsum_any _ (2 :: (da ++ tl)) _ hB' (by simp; omega)).mono ?_
        rintro e wC ⟨rfl, bC⟩
        have hdb : (sha (2 :: (da ++ tl))).length = 32 := sha_length _
        have hsB : Hid (sigB k m = sha (2 :: (da ++ tl))) := by unfold Hid sigB; rw [hsA.out, htl2.out]
        generalize sha (2 :: (da ++ tl)) = db at *
        have bD := Ext.trans bC (ext_alloc wC (.cells (bs db).toArray 35 (0, 0)))
        have rB : RowT 35 (wC.alloc (.cells (bs db).toArray 35 (0, 0))) wC.heap.size db := heap_alloc_new _ _
        have rAD := rAB.below bD
        have r1D := r1B.below bD
        have r2D := r2B.below bD
        have bwD := Below.trans bwB (bD.mono bwB.size)
        have hneB : w.heap.size + 1 < wC.heap.size := by have := rAB.lt; have := bC.size; omega
        clear rAB r1B r2B bwB bC bD hB'
        go_wp2_with (refine arr_dg.store_newL zer_length rfl hdb _ _ rfl rfl rfl ?_)
        generalize wC.alloc (.cells (bs db).toArray 35 (0, 0)) = W20 at *
        rw [← fillS_zero da db] at r2D
        go_loopw [12] (fun i wr => ∃ j : Nat, j ≤ 32 ∧ i = .int .i64 j ∧ RowT 22 wr (w.heap.size + 1) (fillS da db j) ∧ RowT 22 wr w.heap.size zer64 ∧ RowT 35 wr w9.heap.size da ∧ RowT 35 wr wC.heap.size db ∧ Below w.heap.size w wr) (fun i _ => 32 - (intOf i).toNat)
        case atStart => exact ⟨0, by omega, rfl, r2D, r1D, rAD, rB, bwD⟩
        case round =>
          clear r2D r1D rAD rB bwD
          obtain ⟨j, hj, rfl, r2, r1, rA, rB, bw⟩ := hrel
          by_cases h32 : j < 32
          · have c1 := (rA.cell (j := j) (by omega)).1
            have c2 := (rB.cell (j := j) (by omega)).1
            have hfl := fillS_length da db j hda hdb (by omega)
            have f1 := r2.cell (j := j) (by omega)
            have hst := fillS_step da db j hda hdb h32
            have s1 := r2.set j (da.getD j 0)
            have f2 := s1.cell (j := 32 + j) (by rw [List.length_set]; omega)
            have s2 := s1.set (32 + j) (db.getD j 0)
            rw [hst] at s2
            have cB2 : (wr.setCell ⟨w.heap.size + 1, j, none⟩ (.int .u8 (c8 (da.getD j 0)))).cell? ⟨wC.heap.size, j, none⟩ = some (.int .u8 (c8 (db.getD j 0))) := by
              have : RowT 35 (wr.setCell ⟨w.heap.size + 1, j, none⟩ (.int .u8 (c8 (da.getD j 0)))) wC.heap.size db := (heap_setCell_other _ _ _ _ (show wC.heap.size ≠ w.heap.size + 1 by omega)).trans rB
              exact (this.cell (by omega)).1
            generalize da.getD j 0 = y1 at *
            generalize db.getD j 0 = y2 at *
            have n0 : (32 + (j : Int)).toNat = 32 + j := by omega
            have j0 : (0 : Int) ≤ 32 + (j : Int) := by omega
            have k0 : 32 + (j : Int) < 64 := by omega
            have w0 : IntKind.i64.wrap (32 + (j : Int)) = 32 + j := by rw [IntKind.wrap_i64]; omega
            clear s1 hst hfl
            go_wp2_with fail
            refine ⟨⟨j + 1, by omega, by go_num, s2, ?_, ?_, ?_, below_setCell (below_setCell bw (by omega) _) (by omega) _⟩, by simp [intOf]; omega⟩
            · exact (heap_setCell_other _ _ _ _ (show w.heap.size ≠ w.heap.size + 1 by omega)).trans ((heap_setCell_other _ _ _ _ (show w.heap.size ≠ w.heap.size + 1 by omega)).trans r1)
            · exact (heap_setCell_other _ _ _ _ (show w9.heap.size ≠ w.heap.size + 1 by omega)).trans ((heap_setCell_other _ _ _ _ (show w9.heap.size ≠ w.heap.size + 1 by omega)).trans rA)
            · exact (heap_setCell_other _ _ _ _ (show wC.heap.size ≠ w.heap.size + 1 by omega)).trans ((heap_setCell_other _ _ _ _ (show wC.heap.size ≠ w.heap.size + 1 by omega)).trans rB)
          · obtain rfl : j = 32 := by omega
            rw [fillS_end da db hda hdb] at r2
            have hl64 : (da ++ db).length = 64 := by rw [List.length_append, hda, hdb]
            have hfin : sigL k m = da ++ db := by unfold sigL; rw [hsA.out, hsB.out]
            generalize da ++ db = sg at *
            have hret := arr_sg.loadVar (r1.setRow sg) hl64
            have bw14 := below_setRow bw (Nat.le_refl w.heap.size) (bs sg).toArray
            replace hfin : Hid _ := hfin
            clear hsA hsB
            go_wp2_with (first | (refine arr_sg.loadL r2 (by rfl) hl64 _ rfl rfl ?_) | (refine arr_sg.storeL r1 zer64_length rfl hl64 _ _ rfl rfl rfl ?_))
            exact ret_cell2 (v := dg sg) Try.results14 rfl hret rfl ⟨by rw [hfin.out]; rfl, bw14⟩
  · rw [Bool.not_eq_true] at hy
    rw [hy] at hmay
    simp only [hy, Bool.false_eq_true, if_false]
    go_enter Try.func14, Try.ntmps14
    go_wp2_with fail
    refine (show Calls Try.prog 18 _ _ _ from (by rw [← hW] at hmay; exact hmay)).mono ?_
    rw [hW]
    rintro e w' ⟨rfl, rfl⟩
    go_wp2_with (first | (refine arr_sg.loadL r2 (by rfl) zer64_length _ rfl rfl ?_) | (refine arr_sg.storeL r1 zer64_length rfl zer64_length _ _ rfl rfl rfl ?_))
    exact ret_cell2 (v := dg zer64) Try.results14 rfl hretz rfl ⟨rfl, bz⟩
end Go.Proofs.Ytpdkonkgkjkkmaa
