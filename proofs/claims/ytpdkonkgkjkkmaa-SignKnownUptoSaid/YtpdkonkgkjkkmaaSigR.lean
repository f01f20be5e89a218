/- The reference's Unmark (walk). -/
import Derived.Test.YtpdkonkgkjkkmaaSigM
set_option linter.unusedVariables false
set_option linter.unusedSimpArgs false
namespace Go.Proofs.Ytpdkonkgkjkkmaa
open Go.RowKit
attribute [local go_sem high] rs_l rs_lh rs_lhm rs_h rs_hm rs_all dg_cells

theorem take4 (b : List UInt8) (hl : b.length = 68) : b.take 4 = [b.getD 0 0, b.getD 1 0, b.getD 2 0, b.getD 3 0] := by
  apply List.ext_getElem
  · simp [hl]
  · intro i h1 h2
    have hi : i < 4 := by simpa using h2
    match i, hi with
    | 0, _ | 1, _ | 2, _ | 3, _ => simp [hl]
set_option maxRecDepth 20000 in
set_option maxHeartbeats 2000000 in
theorem runmark_any (v : Value) (b : List UInt8) (w : World) (hv : SlB w v b) :
    Calls Try.prog 9 #[v] w fun e w' => e = .returned (.tuple #[dg (if isMark b then b.drop 4 else zer64), .int .i64 (if isMark b then 0 else 5)]) ∧ Below w.heap.size w w' := by
  obtain ⟨W2, hW⟩ : ∃ W2, (w.alloc (.cells (bs zer64).toArray 22 (0, 0))).alloc (.cells (bs zer64).toArray 22 (0, 0)) = W2 := ⟨_, rfl⟩
  obtain ⟨h1, h2, b2, z2⟩ := alloc2 hW
  have r1 : RowT 22 W2 w.heap.size zer64 := h1
  have r2 : RowT 22 W2 (w.heap.size + 1) zer64 := h2
  have hretz := arr_sg.loadVar (r1.setRow zer64) zer64_length
  have bz := below_setRow b2 (Nat.le_refl _) (bs zer64).toArray
  have hv2 := hv.below b2
  obtain ⟨A, c, rfl, hc, hcm, hA, hrr⟩ := hv
  by_cases hl : b.length = 68
  · have e1 : ((b.length : Int) != 68) = false := by rw [hl]; rfl
    have hcl := fun j (hj : j < 68) => RdB.cell hrr (i := j) (by omega)
    obtain ⟨ad, rfl, f0'⟩ := hcl 0 (by omega)
    have hcc := fun j (hj : j < 68) o o' => (show ((w.alloc o).alloc o').cell? (ad.add j) = some (.int .u8 (c8 (b.getD j 0))) by
      obtain ⟨ad', e, h⟩ := RdB.cell (hrr.below' (Ext.trans (ext_alloc w o) (ext_alloc _ o'))) (i := j) (by omega); cases e; exact h)
    have f0 := hcc 0 (by omega)
    rw [show ad.add 0 = ad by simp [Addr.add]] at f0
    have f1 := hcc 1 (by omega)
    have f2 := hcc 2 (by omega)
    have f3 := hcc 3 (by omega)
    simp only [Addr.add, show ¬ (1 = 0) by decide, show ¬ (2 = 0) by decide, show ¬ (3 = 0) by decide, if_false] at f1 f2 f3
    clear f0'
    have hlen : (0 : Int) < b.length := by omega
    have hlen1 : (1 : Int) < b.length := by omega
    have hlen2 : (2 : Int) < b.length := by omega
    have hlen3 : (3 : Int) < b.length := by omega
    have ht4 := take4 b hl
    have hno : ∀ (P : Prop), (isMark b = true → P) → ¬ P → isMark b = false := fun P h1 h2 => by
      cases e : isMark b with
      | false => rfl
      | true => exact absurd (h1 e) h2
    have hyes : ∀ j (hj : j < 4), isMark b = true → b.getD j 0 = hd4.getD j 0 := fun j hj h => by
      have := ((isMark_iff b).1 h).2
      rw [ht4] at this
      match j, hj with
      | 0, _ | 1, _ | 2, _ | 3, _ => simp [hd4] at this; simp [hd4, this]
    rw [← hW] at r1 r2 hretz bz
    have hy0 := hyes 0 (by omega)
    have hy1 := hyes 1 (by omega)
    have hy2 := hyes 2 (by omega)
    have hy3 := hyes 3 (by omega)
    clear hyes hcc hcl
    generalize b.getD 0 0 = x0 at *
    generalize b.getD 1 0 = x1 at *
    generalize b.getD 2 0 = x2 at *
    generalize b.getD 3 0 = x3 at *
    by_cases k0 : x0 = 8
    · by_cases k1 : x1 = 7
      · by_cases k2 : x2 = 0
        · by_cases k3 : x3 = 64
          · have hm : isMark b = true := (isMark_iff b).2 ⟨hl, by rw [ht4, k0, k1, k2, k3]; rfl⟩
            rw [hm]
            simp only [k0, show c8 8 = 8 by decide] at f0; simp only [k1, show c8 7 = 7 by decide] at f1; simp only [k2, show c8 0 = 0 by decide] at f2; simp only [k3, show c8 64 = 64 by decide] at f3
            clear hy0 hy1 hy2 hy3 hno
            have b2' := b2
            rw [← hW] at b2'
            have hR0 : RowT 22 ((w.alloc (.cells (bs zer64).toArray 22 (0, 0))).alloc (.cells (bs zer64).toArray 22 (0, 0))) (w.heap.size + 1) ((b.drop 4).take 0 ++ List.replicate (64 - 0) 0) := r2
            go_enter Try.func9, Try.ntmps9
            go_wp2_with fail
            go_loopw [5] (fun i wr => ∃ k : Nat, k ≤ 64 ∧ i = .int .i64 k ∧ RowT 22 wr (w.heap.size + 1) ((b.drop 4).take k ++ List.replicate (64 - k) 0) ∧ RowT 22 wr w.heap.size zer64 ∧ Below w.heap.size w wr) (fun i _ => 64 - (intOf i).toNat)
            case atStart => exact ⟨0, by omega, rfl, hR0, r1, b2'⟩
            case round =>
              clear hR0 r1 r2 b2' f0 f1 f2 f3 hW
              obtain ⟨k, hk, rfl, hR, hD, bw⟩ := hrel
              have hdl : (b.drop 4).length = 64 := by simp; omega
              by_cases h64 : k < 64
              · have hcell : wr.cell? (ad.add (4 + k)) = some (.int .u8 (c8 (b.getD (4 + k) 0))) := by
                  obtain ⟨ad', e, h⟩ := RdB.cell (hrr.below' bw) (i := 4 + k) (by omega)
                  cases e; exact h
                have f0 := hR.cell (j := k) (by simp; omega)
                have hset := hR.set k (b.getD (4 + k) 0)
                have hsf := set_fill (b.drop 4) k (by omega)
                have hgd : (b.drop 4).getD k 0 = b.getD (4 + k) 0 := by simp
                rw [hdl, hgd] at hsf
                rw [hsf] at hset
                generalize b.getD (4 + k) 0 = x at hcell hset
                have i0 : (4 + (k : Int)).toNat = 4 + k := by omega
                have j0 : (0 : Int) ≤ 4 + (k : Int) := by omega
                have j1 : 4 + (k : Int) < b.length := by omega
                have w0 : IntKind.i64.wrap (4 + (k : Int)) = 4 + k := by rw [IntKind.wrap_i64]; omega
                go_wp2_with fail
                refine ⟨⟨k + 1, by omega, by go_num, hset, (heap_setCell_other _ _ _ _ (show w.heap.size ≠ w.heap.size + 1 by omega)).trans hD, below_setCell bw (by omega) _⟩, by simp [intOf]; omega⟩
              · obtain rfl : k = 64 := by omega
                rw [List.take_of_length_le (by omega)] at hR
                have hR' : RowT 22 wr (w.heap.size + 1) (b.drop 4) := by simpa using hR
                have hret := arr_sg.loadVar (hD.setRow (b.drop 4)) hdl
                have bz4 := below_setRow bw (Nat.le_refl _) (bs (b.drop 4)).toArray
                go_wp2_with (first | (refine arr_sg.loadL hR' (by rfl) hdl _ rfl rfl ?_) | (refine arr_sg.storeL hD zer64_length rfl hdl _ _ rfl rfl rfl ?_))
                exact ret_cell2 (v := dg (b.drop 4)) Try.results9 rfl hret rfl ⟨rfl, bz4⟩
          · rw [hno _ hy3 k3]
            have q : (c8 x3 != 64) = true := by rw [bne_iff_ne]; exact fun e => k3 (c8_inj.1 (e.trans (by decide)))
            simp only [k0, show c8 8 = 8 by decide] at f0; simp only [k1, show c8 7 = 7 by decide] at f1; simp only [k2, show c8 0 = 0 by decide] at f2
            clear hy0 hy1 hy2 hy3 hno ht4
            go_enter Try.func9, Try.ntmps9
            go_wp2_with (first | (refine arr_sg.loadL r2 (by rfl) zer64_length _ rfl rfl ?_) | (refine arr_sg.storeL r1 zer64_length rfl zer64_length _ _ rfl rfl rfl ?_))
            exact ret_cell2 (v := dg zer64) Try.results9 rfl hretz rfl ⟨rfl, bz⟩
        · rw [hno _ hy2 k2]
          have q : (c8 x2 != 0) = true := by rw [bne_iff_ne]; exact fun e => k2 (c8_inj.1 (e.trans (by decide)))
          simp only [k0, show c8 8 = 8 by decide] at f0; simp only [k1, show c8 7 = 7 by decide] at f1
          clear hy0 hy1 hy2 hy3 hno ht4
          go_enter Try.func9, Try.ntmps9
          go_wp2_with (first | (refine arr_sg.loadL r2 (by rfl) zer64_length _ rfl rfl ?_) | (refine arr_sg.storeL r1 zer64_length rfl zer64_length _ _ rfl rfl rfl ?_))
          exact ret_cell2 (v := dg zer64) Try.results9 rfl hretz rfl ⟨rfl, bz⟩
      · rw [hno _ hy1 k1]
        have q : (c8 x1 != 7) = true := by rw [bne_iff_ne]; exact fun e => k1 (c8_inj.1 (e.trans (by decide)))
        simp only [k0, show c8 8 = 8 by decide] at f0
        clear hy0 hy1 hy2 hy3 hno ht4
        go_enter Try.func9, Try.ntmps9
        go_wp2_with (first | (refine arr_sg.loadL r2 (by rfl) zer64_length _ rfl rfl ?_) | (refine arr_sg.storeL r1 zer64_length rfl zer64_length _ _ rfl rfl rfl ?_))
        exact ret_cell2 (v := dg zer64) Try.results9 rfl hretz rfl ⟨rfl, bz⟩
    · rw [hno _ hy0 k0]
      have q : (c8 x0 != 8) = true := by rw [bne_iff_ne]; exact fun e => k0 (c8_inj.1 (e.trans (by decide)))
      clear hy0 hy1 hy2 hy3 hno ht4
      go_enter Try.func9, Try.ntmps9
      go_wp2_with (first | (refine arr_sg.loadL r2 (by rfl) zer64_length _ rfl rfl ?_) | (refine arr_sg.storeL r1 zer64_length rfl zer64_length _ _ rfl rfl rfl ?_))
      exact ret_cell2 (v := dg zer64) Try.results9 rfl hretz rfl ⟨rfl, bz⟩
  · have e1 : ((b.length : Int) != 68) = true := by rw [bne_iff_ne]; omega
    have hm : isMark b = false := by
      cases e : isMark b with
      | false => rfl
      | true => exact absurd ((isMark_iff b).1 e).1 hl
    rw [hm]
    rw [← hW] at r1 r2 hretz bz
    go_enter Try.func9, Try.ntmps9
    go_wp2_with (first | (refine arr_sg.loadL r2 (by rfl) zer64_length _ rfl rfl ?_) | (refine arr_sg.storeL r1 zer64_length rfl zer64_length _ _ rfl rfl rfl ?_))
    exact ret_cell2 (v := dg zer64) Try.results9 rfl hretz rfl ⟨rfl, bz⟩
end Go.Proofs.Ytpdkonkgkjkkmaa
