/- Hex and Unhex of the program and of the reference (walks). -/
import Derived.Test.YtbdgnlbbijpfmaaDg
import Derived.Test.YtbdgnlbbijpfmaaShaT
import Derived.Laws.RangeString
set_option linter.unusedVariables false
set_option linter.unusedSimpArgs false
namespace Go.Proofs.Ytbdgnlbbijpfmaa
open Go.RowKit

abbrev digitsS : ByteArray := ⟨#[48, 49, 50, 51, 52, 53, 54, 55, 56, 57, 97, 98, 99, 100, 101, 102]⟩
theorem ix_dig (w : World) (n : Nat) (h : n < 16) (k : IntKind) (m : Int) (hm : m = n) : (Instr.index 9 (.string digitsS) (.int k m)).run Try.prog w = .ok (.int .u8 (c8 (digN n))) w := by
  subst hm
  have : ∀ n : Fin 16, digitsS[n.val]'(n.isLt) = digN n.val := by decide
  have hd := this ⟨n, h⟩
  have h1 : (0 : Int) ≤ (n : Int) := by omega
  have h2 : (n : Int) < 16 := by omega
  have h3 : n < digitsS.size := h
  have h4 : (digitsS.size : Int) = 16 := rfl
  simp [Instr.index, go_sem, h1, h2, h3, h4, asIntOf]
  have h5 : digitsS[n]? = some (digN n) := by rw [getElem?_pos digitsS n h3]; exact congrArg some hd
  rw [h5]; rfl
attribute [local go_sem high] dg_cells
theorem and15 (x : UInt8) : bits .and .u8 (c8 x) 15 = ((x.toNat % 16 : Nat) : Int) := by
  have : ∀ n : Fin 256, bits .and .u8 (n.val : Int) 15 = ((n.val % 16 : Nat) : Int) := by decide +kernel
  exact this ⟨x.toNat, x.toNat_lt⟩
theorem hex_set (d : List UInt8) (n : Nat) (h : n < 64) : (tab 64 (hexAt d n)).set n (digN (nibN d n)) = tab 64 (hexAt d (n + 1)) := by
  have e : digN (nibN d n) = hexAt d (n + 1) n := by unfold hexAt; rw [if_pos (by omega)]
  rw [e]
  refine tab_set 64 _ _ n (fun j hj => ?_) h
  by_cases h1 : j = n
  · rw [if_pos h1, h1]
  · rw [if_neg h1]; unfold hexAt
    by_cases h2 : j < n
    · rw [if_pos h2, if_pos (by omega)]
    · rw [if_neg h2, if_neg (by omega)]
theorem nib_hi (d : List UInt8) (k : Nat) : nibN d (2 * k) = (d.getD k 0).toNat / 16 := by unfold nibN; rw [if_pos (by omega), show 2 * k / 2 = k by omega]
theorem nib_lo (d : List UInt8) (k : Nat) : nibN d (2 * k + 1) = (d.getD k 0).toNat % 16 := by unfold nibN; rw [if_neg (by omega), show (2 * k + 1) / 2 = k by omega]
theorem hexAt_zero (d : List UInt8) : tab 64 (hexAt d 0) = List.replicate 64 0 := by
  rw [← tab_const]; apply tab_congr; intro j hj; simp [hexAt]
set_option maxHeartbeats 1000000 in
theorem hex_any (d : List UInt8) (hd : d.length = 32) (w : World) :
    Calls Try.prog 14 #[dg d] w fun e w' => e = .returned (.string (str (hexL d))) ∧ Below w.heap.size w w' := by
  have hi := info32' hd
  have hr0 : ∀ o, Row32 ((w.alloc (.cells (bs d).toArray 24 (0, 0))).alloc o) w.heap.size d := fun o => Row32.below (heap_alloc_new _ _) (ext_alloc _ _)
  have hz0 : RowT 53 ((w.alloc (.cells (bs d).toArray 24 (0, 0))).alloc (.cells (bs (List.replicate 64 0)).toArray 53 (0, 0))) (w.heap.size + 1) (tab 64 (hexAt d (2 * 0))) := by
    rw [Nat.mul_zero, hexAt_zero]
    have := heap_alloc_new (w.alloc (.cells (bs d).toArray 24 (0, 0))) (.cells (bs (List.replicate 64 0)).toArray 53 (0, 0))
    rwa [size_alloc] at this
  have bz0 : Below w.heap.size w ((w.alloc (.cells (bs d).toArray 24 (0, 0))).alloc (.cells (bs (List.replicate 64 0)).toArray 53 (0, 0))) := Ext.trans (ext_alloc _ _) (ext_alloc _ _)
  change Calls _ _ #[.agg (bs d).toArray] _ _
  go_enter Try.func14, Try.ntmps14
  go_wp2_with (refine wpList_load_mid rfl 24 _ rfl w.heap.size 0 rfl _ _ (hr0 _).range Try.underlying24 rfl hi ?_)
  go_loopw [7] (fun i wr => ∃ k : Nat, k ≤ 32 ∧ i = .int .i64 k ∧ RowT 53 wr (w.heap.size + 1) (tab 64 (hexAt d (2 * k))) ∧ Below w.heap.size w wr) (fun i _ => 32 - (intOf i).toNat)
  case atStart => exact ⟨0, by omega, rfl, hz0, bz0⟩
  case round =>
    clear hz0 bz0 hr0
    obtain ⟨k, hk, rfl, hz, bw⟩ := hrel
    by_cases h32 : k < 32
    · have hx := fun w' => ix_dg w' d k h32 hd
      have s1 := hex_set d (2 * k) (by omega)
      have s2 := hex_set d (2 * k + 1) (by omega)
      rw [nib_hi] at s1
      rw [nib_lo] at s2
      have f1 := hz.cell (j := 2 * k) (by rw [tab_length]; omega)
      have z1 := hz.set (2 * k) (digN ((d.getD k 0).toNat / 16))
      rw [s1] at z1
      have f2 := z1.cell (j := 2 * k + 1) (by rw [tab_length]; omega)
      have z2 := z1.set (2 * k + 1) (digN ((d.getD k 0).toNat % 16))
      rw [s2] at z2
      clear s1 s2 z1
      generalize d.getD k 0 = x at hx z2 f2
      have x1 : c8 x / 16 = ((x.toNat / 16 : Nat) : Int) := rfl
      have i1 := fun w' => ix_dig w' (x.toNat / 16) (by have := x.toNat_lt; omega) .u8 (c8 x / 16) rfl
      have i2 := fun w' => ix_dig w' (x.toNat % 16) (by omega) .u8 _ (and15 x)
      generalize digN (x.toNat / 16) = a at i1 z2 f2
      generalize digN (x.toNat % 16) = b at i2 z2
      have w0 : IntKind.i64.wrap (2 * (k : Int)) = 2 * k := by rw [IntKind.wrap_i64]; omega
      have w1 : IntKind.i64.wrap (2 * (k : Int) + 1) = 2 * k + 1 := by rw [IntKind.wrap_i64]; omega
      have n0 : (2 * (k : Int)).toNat = 2 * k := by omega
      have n1 : (2 * (k : Int) + 1).toNat = 2 * k + 1 := by omega
      have j0 : (0 : Int) ≤ 2 * (k : Int) := by omega
      have j1 : (0 : Int) ≤ 2 * (k : Int) + 1 := by omega
      have k0 : 2 * (k : Int) < 64 := by omega
      have k1 : 2 * (k : Int) + 1 < 64 := by omega
      clear x1
      go_wp2_with fail
      refine wp_region_T (by kernel_rfl) ?_
      refine wpAnyT_take (i := 0) (v := ?_) (some 11) rfl rfl (by kernel_rfl) (by kernel_rfl) (by kernel_rfl) (fun _ _ _ h => h) ?_ ?_
      rotate_left 1
      · (refine Or.inl ⟨by rfl, ?_⟩; intro w' _; (try go_simp); (try rfl); done)
      try simp only [Act.put, List.setIfInBounds_toArray, List.set_cons_zero, List.set_cons_succ]
      refine wpAnyT_take (i := 1) (v := ?_) (some 12) rfl rfl (by kernel_rfl) (by kernel_rfl) (by kernel_rfl) (fun _ _ _ h => h) ?_ ?_
      rotate_left 1
      · (refine Or.inl ⟨by rfl, ?_⟩; intro w' _; (try go_simp); (try rfl); done)
      try simp only [Act.put, List.setIfInBounds_toArray, List.set_cons_zero, List.set_cons_succ]
      refine wpAnyT_take (i := 2) (v := ?_) (some 13) rfl rfl (by kernel_rfl) (by kernel_rfl) (by kernel_rfl) (fun _ _ _ h => h) ?_ ?_
      rotate_left 1
      · (refine Or.inl ⟨by rfl, ?_⟩; intro w' _; (try go_simp); (try rfl); done)
      try simp only [Act.put, List.setIfInBounds_toArray, List.set_cons_zero, List.set_cons_succ]
      refine wpAnyT_take (i := 3) (v := ?_) (some 14) rfl rfl (by kernel_rfl) (by kernel_rfl) (by kernel_rfl) (fun _ _ _ h => h) ?_ ?_
      rotate_left 1
      · (refine Or.inl ⟨by rfl, ?_⟩; intro w' _; (try go_simp); (try rfl); done)
      try simp only [Act.put, List.setIfInBounds_toArray, List.set_cons_zero, List.set_cons_succ]
      refine wpAnyT_take (i := 4) (v := ?_) (some 15) rfl rfl (by kernel_rfl) (by kernel_rfl) (by kernel_rfl) (fun _ _ _ h => h) ?_ ?_
      rotate_left 1
      · (refine Or.inl ⟨by rfl, ?_⟩; intro w' _; (try go_simp); (try rfl); done)
      try simp only [Act.put, List.setIfInBounds_toArray, List.set_cons_zero, List.set_cons_succ]
      refine wpAnyT_take (i := 5) (v := ?_) (some 16) rfl rfl (by kernel_rfl) (by kernel_rfl) (by kernel_rfl) (fun _ _ _ h => h) ?_ ?_
      rotate_left 1
      · (refine Or.inl ⟨by rfl, ?_⟩; intro w' _; (try go_simp); (try rfl); done)
      try simp only [Act.put, List.setIfInBounds_toArray, List.set_cons_zero, List.set_cons_succ]
      refine wpAnyT_take (i := 6) (v := ?_) (some 17) rfl rfl (by kernel_rfl) (by kernel_rfl) (by kernel_rfl) (fun _ _ _ h => h) ?_ ?_
      rotate_left 1
      · (refine Or.inl ⟨by rfl, ?_⟩; intro w' _; (try go_simp); (try rfl); done)
      try simp only [Act.put, List.setIfInBounds_toArray, List.set_cons_zero, List.set_cons_succ]
      refine wpAnyT_take (i := 7) (v := ?_) (some 18) rfl rfl (by kernel_rfl) (by kernel_rfl) (by kernel_rfl) (fun _ _ _ h => h) ?_ ?_
      rotate_left 1
      · (refine Or.inl ⟨by rfl, ?_⟩; intro w' _; (try go_simp); (try rfl); done)
      try simp only [Act.put, List.setIfInBounds_toArray, List.set_cons_zero, List.set_cons_succ]
      refine wpAnyT_take (i := 8) (v := ?_) (some 19) rfl rfl (by kernel_rfl) (by kernel_rfl) (by kernel_rfl) (fun _ _ _ h => h) ?_ ?_
      rotate_left 1
      · (refine Or.inl ⟨by rfl, ?_⟩; intro w' _; (try go_simp); (try rfl); done)
      try simp only [Act.put, List.setIfInBounds_toArray, List.set_cons_zero, List.set_cons_succ]
      refine wpAnyT_take (i := 9) (v := ?_) (some 20) rfl rfl (by kernel_rfl) (by kernel_rfl) (by kernel_rfl) (fun _ _ _ h => h) ?_ ?_
      rotate_left 1
      · (refine Or.inl ⟨by rfl, ?_⟩; intro w' _; (try go_simp); (try rfl); done)
      try simp only [Act.put, List.setIfInBounds_toArray, List.set_cons_zero, List.set_cons_succ]
      refine wpAnyT_take (i := 10) (v := ?_) (some 21) rfl rfl (by kernel_rfl) (by kernel_rfl) (by kernel_rfl) (fun _ _ _ h => h) ?_ ?_
      rotate_left 1
      · (refine Or.inl ⟨by rfl, ?_⟩; intro w' _; (try go_simp); (try rfl); done)
      try simp only [Act.put, List.setIfInBounds_toArray, List.set_cons_zero, List.set_cons_succ]
      refine wpAnyT_take (i := 11) (v := ?_) (some 22) rfl rfl (by kernel_rfl) (by kernel_rfl) (by kernel_rfl) (fun _ _ _ h => h) ?_ ?_
      rotate_left 1
      · (refine Or.inl ⟨by rfl, ?_⟩; intro w' _; (try go_simp); (try rfl); done)
      try simp only [Act.put, List.setIfInBounds_toArray, List.set_cons_zero, List.set_cons_succ]
      refine wpAnyT_one (i := 12) rfl (by kernel_rfl) (by rfl) (fun K hK => ?_)
      go_simp
      refine hK.out _ _ ?_
      clear hK K
      try simp only [Act.put, List.setIfInBounds_toArray, List.set_cons_zero, List.set_cons_succ]
      refine wpAnyT_take (i := 13) (v := ?_) (some 23) rfl rfl (by kernel_rfl) (by kernel_rfl) (by kernel_rfl) (fun _ _ _ h => h) ?_ ?_
      rotate_left 1
      · (refine Or.inl ⟨by rfl, ?_⟩; intro w' _; (try go_simp); (try rfl); done)
      try simp only [Act.put, List.setIfInBounds_toArray, List.set_cons_zero, List.set_cons_succ]
      refine wpAnyT_one (i := 14) rfl (by kernel_rfl) (by rfl) (fun K hK => ?_)
      go_simp
      refine hK.out _ _ ?_
      clear hK K
      try simp only [Act.put, List.setIfInBounds_toArray, List.set_cons_zero, List.set_cons_succ]
      refine wpAnyT_done (by kernel_rfl) ?_ _
      go_wp2_with fail
      refine ⟨⟨k + 1, by omega, by go_num, ?_, (below_setCell (below_setCell bw (by omega) _) (by omega) _).drew⟩, by simp [intOf]; omega⟩
      rw [show 2 * (k + 1) = 2 * k + 1 + 1 by omega]; exact z2
    · obtain rfl : k = 32 := by omega
      have hs := RowT.sl (xs := hexL d) hz (by rw [hexL_length]; decide)
      rw [hexL_length] at hs
      have kc := conv_sl (P := Try.prog) (dst := 9) Try.underlying22 Try.underlying5 Try.underlying9 hs
      go_wp2_with fail
      go_ret
      exact ⟨rfl, bw⟩
theorem hexL_take (d : List UInt8) (k : Nat) (h : k < 32) : (hexL d).take (2 * (k + 1)) = (hexL d).take (2 * k) ++ [digN ((d.getD k 0).toNat / 16), digN ((d.getD k 0).toNat % 16)] := by
  unfold hexL
  rw [tab_take _ _ _ (by omega), tab_take _ _ _ (by omega), show 2 * (k + 1) = 2 * k + 1 + 1 by omega, tab_succ, tab_succ, List.append_assoc]
  congr 1
  unfold hexAt
  rw [if_pos (by omega), if_pos (by omega), nib_hi, nib_lo]; rfl
set_option maxHeartbeats 1000000 in
theorem rhex_any (d : List UInt8) (hd : d.length = 32) (w : World) :
    Calls Try.prog 15 #[dg d] w fun e w' => e = .returned (.string (str (hexL d))) ∧ Below w.heap.size w w' := by
  have hi := info32' hd
  have hr0 : Row32 (w.alloc (.cells (bs d).toArray 24 (0, 0))) w.heap.size d := heap_alloc_new _ _
  have b0 := ext_alloc w (.cells (bs d).toArray 24 (0, 0))
  have z0 := size_alloc w (.cells (bs d).toArray 24 (0, 0))
  change Calls _ _ #[.agg (bs d).toArray] _ _
  go_enter Try.func15, Try.ntmps15
  go_wp2_with fail
  go_loopw [4, 5] (fun v i wr => ∃ k : Nat, k ≤ 32 ∧ i = .int .i64 k ∧ OwB (w.heap.size + 1) wr v ((hexL d).take (2 * k)) ∧ w.heap.size + 1 ≤ wr.heap.size ∧ Below (w.heap.size + 1) (w.alloc (.cells (bs d).toArray 24 (0, 0))) wr) (fun _ i _ => 32 - (intOf i).toNat)
  case atStart => exact ⟨0, by omega, rfl, OwB.nil _ _, by omega, Below.refl _ _⟩
  case round =>
    obtain ⟨k, hk, rfl, hv, hsz, bw⟩ := hrel
    have hr1 : Row32 wr w.heap.size d := (bw.block w.heap.size (by omega)).trans hr0
    by_cases h32 : k < 32
    · have htk := hexL_take d k h32
      have hlk : ((hexL d).take (2 * k)).length = 2 * k := by rw [List.length_take, hexL_length]; omega
      have hS : Row32 wr.drew w.heap.size d := hr1
      have hc : ∀ w' : World, Row32 w' w.heap.size d → w'.cell? ⟨w.heap.size, k, none⟩ = some (.int .u8 (c8 (d.getD k 0))) := fun w' h => (h.cell (by omega)).1
      generalize d.getD k 0 = x at hc htk
      have x1 : IntKind.u8.wrap ((c8 x).tdiv 16) = ((x.toNat / 16 : Nat) : Int) := by
        have := x.toNat_lt
        rw [Int.tdiv_eq_ediv_of_nonneg (c8_nonneg x), IntKind.wrap_u8']; unfold c8; omega
      have x2 : (c8 x).tmod 16 = ((x.toNat % 16 : Nat) : Int) := by rw [Int.tmod_eq_emod_of_nonneg (c8_nonneg x)]; rfl
      have i1 := fun w' => ix_dig w' (x.toNat / 16) (by have := x.toNat_lt; omega) .u8 _ x1
      have i2 := fun w' => ix_dig w' (x.toNat % 16) (by omega) .u8 _ x2
      generalize digN (x.toNat / 16) = a at i1 htk
      generalize digN (x.toNat % 16) = b at i2 htk
      clear x1 x2
      have kk : (k : Int) < 32 := by omega
      replace htk : Hid _ := htk
      go_wp2_with fail
      refine wp_region_S (fun w' => Row32 w' w.heap.size d) (by kernel_rfl) ?_
      refine wpAnyS_take (i := 0) (v := ?_) hS (some 10) rfl rfl (by kernel_rfl) (by kernel_rfl) (by kernel_rfl) (fun _ _ _ h => h) ?_ ?_
      rotate_left 1
      · (refine Or.inl ⟨by rfl, ?_⟩; intro w' hw'; have hz := hc _ hw'; (try go_simp); (try rfl); done)
      try simp only [Act.put, List.setIfInBounds_toArray, List.set_cons_zero, List.set_cons_succ]
      refine wpAnyS_take (i := 1) (v := ?_) hS (some 11) rfl rfl (by kernel_rfl) (by kernel_rfl) (by kernel_rfl) (fun _ _ _ h => h) ?_ ?_
      rotate_left 1
      · (refine Or.inl ⟨by rfl, ?_⟩; intro w' hw'; have hz := hc _ hw'; (try go_simp); (try rfl); done)
      try simp only [Act.put, List.setIfInBounds_toArray, List.set_cons_zero, List.set_cons_succ]
      refine wpAnyS_take (i := 2) (v := ?_) hS (some 12) rfl rfl (by kernel_rfl) (by kernel_rfl) (by kernel_rfl) (fun _ _ _ h => h) ?_ ?_
      rotate_left 1
      · (refine Or.inl ⟨by rfl, ?_⟩; intro w' hw'; have hz := hc _ hw'; (try go_simp); (try rfl); done)
      try simp only [Act.put, List.setIfInBounds_toArray, List.set_cons_zero, List.set_cons_succ]
      refine wpAnyS_take (i := 3) (v := ?_) hS (some 13) rfl rfl (by kernel_rfl) (by kernel_rfl) (by kernel_rfl) (fun _ _ _ h => h) ?_ ?_
      rotate_left 1
      · (refine Or.inl ⟨by rfl, ?_⟩; intro w' hw'; have hz := hc _ hw'; (try go_simp); (try rfl); done)
      try simp only [Act.put, List.setIfInBounds_toArray, List.set_cons_zero, List.set_cons_succ]
      refine wpAnyS_take (i := 4) (v := ?_) hS (some 14) rfl rfl (by kernel_rfl) (by kernel_rfl) (by kernel_rfl) (fun _ _ _ h => h) ?_ ?_
      rotate_left 1
      · (refine Or.inl ⟨by rfl, ?_⟩; intro w' hw'; have hz := hc _ hw'; (try go_simp); (try rfl); done)
      try simp only [Act.put, List.setIfInBounds_toArray, List.set_cons_zero, List.set_cons_succ]
      refine wpAnyS_take (i := 5) (v := ?_) hS (some 15) rfl rfl (by kernel_rfl) (by kernel_rfl) (by kernel_rfl) (fun _ _ _ h => h) ?_ ?_
      rotate_left 1
      · (refine Or.inl ⟨by rfl, ?_⟩; intro w' hw'; have hz := hc _ hw'; (try go_simp); (try rfl); done)
      try simp only [Act.put, List.setIfInBounds_toArray, List.set_cons_zero, List.set_cons_succ]
      refine wpAnyS_take (i := 6) (v := ?_) hS (some 16) rfl rfl (by kernel_rfl) (by kernel_rfl) (by kernel_rfl) (fun _ _ _ h => h) ?_ ?_
      rotate_left 1
      · (refine Or.inl ⟨by rfl, ?_⟩; intro w' hw'; have hz := hc _ hw'; (try go_simp); (try rfl); done)
      try simp only [Act.put, List.setIfInBounds_toArray, List.set_cons_zero, List.set_cons_succ]
      refine wpAnyS_take (i := 7) (v := ?_) hS (some 17) rfl rfl (by kernel_rfl) (by kernel_rfl) (by kernel_rfl) (fun _ _ _ h => h) ?_ ?_
      rotate_left 1
      · (refine Or.inl ⟨by rfl, ?_⟩; intro w' hw'; have hz := hc _ hw'; (try go_simp); (try rfl); done)
      try simp only [Act.put, List.setIfInBounds_toArray, List.set_cons_zero, List.set_cons_succ]
      refine wpAnyS_take (i := 8) (v := ?_) hS (some 18) rfl rfl (by kernel_rfl) (by kernel_rfl) (by kernel_rfl) (fun _ _ _ h => h) ?_ ?_
      rotate_left 1
      · (refine Or.inl ⟨by rfl, ?_⟩; intro w' hw'; have hz := hc _ hw'; (try go_simp); (try rfl); done)
      try simp only [Act.put, List.setIfInBounds_toArray, List.set_cons_zero, List.set_cons_succ]
      refine wpAnyS_take (i := 9) (v := ?_) hS (some 19) rfl rfl (by kernel_rfl) (by kernel_rfl) (by kernel_rfl) (fun _ _ _ h => h) ?_ ?_
      rotate_left 1
      · (refine Or.inl ⟨by rfl, ?_⟩; intro w' hw'; have hz := hc _ hw'; (try go_simp); (try rfl); done)
      try simp only [Act.put, List.setIfInBounds_toArray, List.set_cons_zero, List.set_cons_succ]
      refine wpAnyS_take (i := 10) (v := ?_) hS (some 20) rfl rfl (by kernel_rfl) (by kernel_rfl) (by kernel_rfl) (fun _ _ _ h => h) ?_ ?_
      rotate_left 1
      · (refine Or.inl ⟨by rfl, ?_⟩; intro w' hw'; have hz := hc _ hw'; (try go_simp); (try rfl); done)
      try simp only [Act.put, List.setIfInBounds_toArray, List.set_cons_zero, List.set_cons_succ]
      refine wpAnyS_take (i := 11) (v := ?_) hS (some 21) rfl rfl (by kernel_rfl) (by kernel_rfl) (by kernel_rfl) (fun _ _ _ h => h) ?_ ?_
      rotate_left 1
      · (refine Or.inl ⟨by rfl, ?_⟩; intro w' hw'; have hz := hc _ hw'; (try go_simp); (try rfl); done)
      try simp only [Act.put, List.setIfInBounds_toArray, List.set_cons_zero, List.set_cons_succ]
      refine wpAnyS_take (i := 12) (v := ?_) hS (some 22) rfl rfl (by kernel_rfl) (by kernel_rfl) (by kernel_rfl) (fun _ _ _ h => h) ?_ ?_
      rotate_left 1
      · (refine Or.inl ⟨by rfl, ?_⟩; intro w' hw'; have hz := hc _ hw'; (try go_simp); (try rfl); done)
      try simp only [Act.put, List.setIfInBounds_toArray, List.set_cons_zero, List.set_cons_succ]
      refine wpAnyS_one (i := 13) rfl (by kernel_rfl) (by rfl) (fun K hK => ?_)
      go_simp
      have ba := (ext_alloc wr (.cells #[.int .u8 (c8 a), .int .u8 (c8 b)] 5)).drew
      have hv2 := hv.below ba
      have hs2 : SlB (wr.alloc (.cells #[.int .u8 (c8 a), .int .u8 (c8 b)] 5)).drew (.slice (some ⟨wr.heap.size, 0, none⟩) 2 2) [a, b] := slB_lit wr [a, b] _ _ (by simp)
      have hb := Row32.below hr1 ba
      have bw2 := bw.trans (ba.mono hsz)
      refine hK.out _ _ hb ?_
      replace hS := hb
      clear hK K hb
      try simp only [Act.put, List.setIfInBounds_toArray, List.set_cons_zero, List.set_cons_succ]
      refine wpAnyS_one (i := 14) rfl (by kernel_rfl) (by rfl) (fun K hK => ?_)
      refine wp_apB (B := w.heap.size + 1) (ys := [a, b]) _ _ rfl rfl hv2 rfl hs2 (by simp) (by rw [hlk]; simp; omega) (by have := bw2.size; omega) ?_
      intro v4 w4 h4 b4
      have hb : Row32 w4 w.heap.size d := (b4.block w.heap.size (by omega)).trans hS
      refine hK.out _ _ hb ?_
      replace hS := hb
      clear hK K hb
      try simp only [Act.put, List.setIfInBounds_toArray, List.set_cons_zero, List.set_cons_succ]
      refine wpAnyS_take (i := 15) (v := ?_) hS (some 4) rfl rfl (by kernel_rfl) (by kernel_rfl) (by kernel_rfl) (fun _ _ _ h => h) ?_ ?_
      rotate_left 1
      · (refine Or.inl ⟨by rfl, ?_⟩; intro w' hw'; have hz := hc _ hw'; (try go_simp); (try rfl); done)
      try simp only [Act.put, List.setIfInBounds_toArray, List.set_cons_zero, List.set_cons_succ]
      refine wpAnyS_done (by kernel_rfl) ?_ _
      rw [← htk.out] at h4
      have b5 := bw2.trans b4
      have z5 := b5.size
      go_wp2_with fail
      go_roundw
      case rel => exact ⟨k + 1, by omega, by go_num, h4, by omega, b5⟩
      case measure => simp [intOf]; omega
    · obtain rfl : k = 32 := by omega
      rw [List.take_of_length_le (by rw [hexL_length]; omega)] at hv
      have kc := conv_sl (P := Try.prog) (dst := 9) Try.underlying22 Try.underlying5 Try.underlying9 hv.sl
      go_wp2_with fail
      go_ret
      exact ⟨rfl, b0.trans (bw.mono (by omega))⟩
end Go.Proofs.Ytbdgnlbbijpfmaa
