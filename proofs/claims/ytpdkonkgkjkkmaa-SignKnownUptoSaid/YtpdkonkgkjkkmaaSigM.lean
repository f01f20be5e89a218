/- Marks of signatures: both ways (walks and the plain law). -/
import Derived.Test.YtpdkonkgkjkkmaaSg
import Derived.Lib.SlBytesConst
set_option linter.unusedVariables false
set_option linter.unusedSimpArgs false
namespace Go.Proofs.Ytpdkonkgkjkkmaa
open Go.RowKit
attribute [local go_sem high] rs_l rs_lh rs_lhm rs_h rs_hm rs_all dg_cells

theorem arr_sg : Arr8 22 64 := ⟨by kernel_rfl, by kernel_rfl, by kernel_rfl⟩
def hd4 : List UInt8 := [8, 7, 0, 64]
def markL (s : List UInt8) : List UInt8 := hd4 ++ s
def isMark (b : List UInt8) : Bool := decide (b.length = 68) && decide (b.take 4 = hd4)
def zer64 : List UInt8 := List.replicate 64 0
theorem zer64_length : zer64.length = 64 := rfl
theorem isMark_mark (s : List UInt8) (h : s.length = 64) : isMark (markL s) = true := by
  unfold isMark markL; simp [h, hd4]
theorem drop_mark (s : List UInt8) : (markL s).drop 4 = s := rfl
theorem mark_drop (b : List UInt8) (h : isMark b = true) : markL (b.drop 4) = b := by
  unfold isMark at h
  simp only [Bool.and_eq_true, decide_eq_true_eq] at h
  unfold markL; rw [← h.2, List.take_append_drop]
theorem isMark_iff (b : List UInt8) : isMark b = true ↔ b.length = 68 ∧ b.take 4 = hd4 := by unfold isMark; simp

set_option maxHeartbeats 1000000 in
theorem mark_any (s : List UInt8) (hs : s.length = 64) (w : World) :
    Calls Try.prog 10 #[dg s] w fun e w' => ∃ v, e = .returned v ∧ OwB w.heap.size w' v (markL s) ∧ Below w.heap.size w w' := by
  have kc := fun (C : Array Value) (n c : Nat) => Lib.run_convert_bytes_const (P := Try.prog) (w.alloc (.cells (bs s).toArray 22)) 23 5 C n c Try.underlying23 Try.underlying5
  have r1 := rc_lit (w.alloc (.cells (bs s).toArray 22)) hd4 5 (4, 5)
  have r2 := (rc_lit w s 22 (0, 0)).below' (ext_alloc _ (.cells (bs hd4).toArray 5 (4, 5)))
  have bw := Ext.trans (ext_alloc w (.cells (bs s).toArray 22)) (ext_alloc _ (.cells (bs hd4).toArray 5 (4, 5)))
  rw [size_alloc] at r1
  simp only [size_alloc] at kc
  change Calls _ _ #[.agg (bs s).toArray] _ _
  go_enter Try.func10, Try.ntmps10
  go_wp2_with (at_builtin; go_loud (refine wpl_ap_grow (size := 1) (bytes := 1) _ rfl _ _ 23 rfl Try.underlying23 info8 rfl (by decide) (bs hd4) rfl (by simp) (by omega) rfl r1 (bs s) rfl (by simp [bs, hs]) r2 (bs_one _) (by omega) (by omega) (by omega) ?_))
  intro v' w' ho hg
  have hsz : w.heap.size ≤ (World.alloc (w.alloc (.cells (bs s).toArray 22)) (.cells (bs hd4).toArray 5 (4, 5))).heap.size := bw.size
  go_wp2_with fail
  go_ret
  refine ⟨_, rfl, ?_, below_grown bw hg hsz⟩
  have h2 := own_weaken (base' := w.heap.size) ho (by omega)
  rw [← bs_append] at h2
  unfold OwB markL
  rw [List.length_append, hs]; exact h2
set_option maxHeartbeats 1000000 in
theorem rmark_any (s : List UInt8) (hs : s.length = 64) (w : World) :
    Calls Try.prog 11 #[dg s] w fun e w' => ∃ v, e = .returned v ∧ OwB w.heap.size w' v (markL s) ∧ Below w.heap.size w w' := by
  have hr0 : RowT 22 (w.alloc (.cells (bs s).toArray 22)) w.heap.size s := heap_alloc_new _ _
  have b0 := ext_alloc w (.cells (bs s).toArray 22)
  have z0 := size_alloc w (.cells (bs s).toArray 22)
  have h1 : OwB (w.heap.size + 1) ((w.alloc (.cells (bs s).toArray 22)).alloc (.cells (bs hd4).toArray 5)) (.slice (some ⟨w.heap.size + 1, 0, none⟩) 4 4) (hd4 ++ s.take 0) := by
    have := World.ownsRow_lit (base := w.heap.size + 1) (e := 5) (size := 1) (w.alloc (.cells (bs s).toArray 22)) (bs hd4).toArray 4 (by omega) (by decide) rfl
    rw [z0] at this
    exact this
  have b1 : Below (w.heap.size + 1) (w.alloc (.cells (bs s).toArray 22)) ((w.alloc (.cells (bs s).toArray 22)).alloc (.cells (bs hd4).toArray 5)) := by
    have := ext_alloc (w.alloc (.cells (bs s).toArray 22)) (.cells (bs hd4).toArray 5)
    unfold Ext at this; rwa [z0] at this
  change Calls _ _ #[.agg (bs s).toArray] _ _
  go_enter Try.func11, Try.ntmps11
  go_wp2_with fail
  go_loopw [3, 4] (fun v i wr => ∃ k : Nat, k ≤ 64 ∧ i = .int .i64 k ∧ OwB (w.heap.size + 1) wr v (hd4 ++ s.take k) ∧ Below (w.heap.size + 1) (w.alloc (.cells (bs s).toArray 22)) wr) (fun _ i _ => 64 - (intOf i).toNat)
  case atStart => exact ⟨0, by omega, rfl, h1, b1⟩
  case round =>
    clear h1 b1
    obtain ⟨k, hk, rfl, hv, bw⟩ := hrel
    have zw := bw.size
    by_cases h64 : k < 64
    · have hrow : RowT 22 wr w.heap.size s := (bw.block w.heap.size (by omega)).trans hr0
      have hc := hrow.cell (j := k) (by omega)
      have htk : s.take (k + 1) = s.take k ++ [s.getD k 0] := by
        rw [List.take_succ_eq_append_getElem (by omega)]; simp [show k < s.length by omega]
      have hlk : (hd4 ++ s.take k).length = 4 + k := by simp [hd4]; omega
      generalize s.getD k 0 = x at hc htk
      go_wp2_with (at_builtin; go_loud (refine wpl_apB (B := w.heap.size + 1) rfl _ _ rfl rfl (hv.below (ext_alloc _ _)) rfl (slB_one _ x _ _) (by rw [hlk]; simp; omega) (by rw [size_alloc]; omega) ?_))
      intro v2 w2 h2 b2
      rw [← htk] at h2
      have b3 := bw.trans (((Below.refl _ wr).alloc (by omega) (.cells #[.int .u8 (c8 x)] 5)).trans b2)
      go_wp2_with fail
      go_roundw
      case rel => exact ⟨k + 1, by omega, by go_num, h2, b3⟩
      case measure => simp [intOf]; omega
    · obtain rfl : k = 64 := by omega
      rw [List.take_of_length_le (by omega)] at hv
      go_wp2_with fail
      go_ret
      exact ⟨_, rfl, hv.mono (by omega), b0.trans (bw.mono (by omega))⟩
set_option maxHeartbeats 1000000 in
theorem unmark_any (v : Value) (b : List UInt8) (w : World) (hv : SlB w v b) :
    Calls Try.prog 8 #[v] w fun e w' => e = .returned (.tuple #[dg (if isMark b then b.drop 4 else zer64), .int .i64 (if isMark b then 0 else 5)]) ∧ Below w.heap.size w w' := by
  have r0 : RowT 22 (w.alloc (.cells (bs zer64).toArray 22)) w.heap.size zer64 := heap_alloc_new _ _
  have b0 := ext_alloc w (.cells (bs zer64).toArray 22)
  have hretz := arr_sg.loadVar (r0.setRow zer64) zer64_length
  have bz := below_setRow b0 (Nat.le_refl _) (bs zer64).toArray
  have hv0 := hv
  obtain ⟨A, c, rfl, hc, hcm, hA, hrr⟩ := hv
  by_cases hl : b.length = 68
  · have e1 : ((b.length : Int) != 68) = false := by rw [hl]; rfl
    have h4 := slB_slice hv0 0 4 (by omega) (by omega)
    simp only [List.drop_zero, Nat.sub_zero, slA_zero] at h4
    have kd := fun o => conv_sl (P := Try.prog) (dst := 9) Try.underlying23 Try.underlying5 Try.underlying9 (h4.below (ext_alloc w o))
    have g1 : (4 : Int) ≤ c := by omega
    have g2 : (4 : Int) ≤ b.length := by omega
    by_cases ht : b.take 4 = hd4
    · have hm : isMark b = true := (isMark_iff b).2 ⟨hl, ht⟩
      have h8 := slB_slice hv0 4 b.length (by omega) (Nat.le_refl _)
      rw [List.take_of_length_le (by simp)] at h8
      have hd8 : (b.drop 4).length = 64 := by simp; omega
      have hbq : (b.take 4 != [8, 7, 0, 64]) = false := by rw [ht]; rfl
      obtain ⟨A', c', e, _, _, _, hr8⟩ := h8
      injection e with e3 e4 e5
      obtain ⟨ad, hA8, _⟩ := RdB.cell hr8 (i := 0) (by omega)
      rw [hA8] at hr8 e3
      rw [hm]
      have hat := fun w' => run_arrayAt (P := Try.prog) w' 22 5 64 (some ad) 64 c' arr_sg.hu (Nat.le_refl _)
      have hr9 : ∀ o, RdB (w.alloc o) (some ad) (b.drop 4) := fun o => hr8.below' (ext_alloc w o)
      have hret := arr_sg.loadVar (r0.setRow (b.drop 4)) hd8
      have bz4 := below_setRow b0 (Nat.le_refl _) (bs (b.drop 4)).toArray
      go_enter Try.func8, Try.ntmps8
      go_wp2_with (first | (refine arr_sg.loadAtL (hr9 _) (by rfl) hd8 _ rfl rfl ?_) | (refine arr_sg.storeL (heap_alloc_new _ _ : RowT 22 _ _ zer64) zer64_length rfl hd8 _ _ rfl rfl rfl ?_))
      exact ret_cell2 (v := dg (b.drop 4)) Try.results8 rfl hret rfl ⟨rfl, bz4⟩
    · have hm : isMark b = false := by
        cases e : isMark b with
        | false => rfl
        | true => exact absurd ((isMark_iff b).1 e).2 ht
      have hbq : (b.take 4 == [8, 7, 0, 64]) = false := by rw [beq_eq_false_iff_ne]; exact ht
      rw [hm]
      go_enter Try.func8, Try.ntmps8
      go_wp2_with (refine arr_sg.storeL (heap_alloc_new _ _ : RowT 22 _ _ zer64) zer64_length rfl zer64_length _ _ rfl rfl rfl ?_)
      exact ret_cell2 (v := dg zer64) Try.results8 rfl hretz rfl ⟨rfl, bz⟩
  · have e1 : ((b.length : Int) != 68) = true := by rw [bne_iff_ne]; omega
    have hm : isMark b = false := by
      cases e : isMark b with
      | false => rfl
      | true => exact absurd ((isMark_iff b).1 e).1 hl
    rw [hm]
    go_enter Try.func8, Try.ntmps8
    go_wp2_with (refine arr_sg.storeL (heap_alloc_new _ _ : RowT 22 _ _ zer64) zer64_length rfl zer64_length _ _ rfl rfl rfl ?_)
    exact ret_cell2 (v := dg zer64) Try.results8 rfl hretz rfl ⟨rfl, bz⟩
end Go.Proofs.Ytpdkonkgkjkkmaa
