/- The hash of which the first bits are kept: the law's closure and the reference (walks). -/
import Derived.Test.YtnpbapefjbfndaaZXm
import Derived.Test.YtnpbapefjbfndaaZXd
import Derived.Test.YtnpbapefjbfndaaZXa
set_option linter.unusedVariables false
set_option linter.unusedSimpArgs false
namespace Go.Proofs.Ytnpbapefjbfndaa
open Go.RowKit
attribute [local go_sem high] dg_cells guard_dg

/-- A hash as a function value; how many bits it keeps lies in block g. -/
def hv (g : Nat) : Value := .func (.func 27) #[] #[.pointer (some ⟨g, 0, none⟩)]
def HvAt (w : World) (g k : Nat) : Prop := w.cell? ⟨g, 0, none⟩ = some (.int .i64 (k : Int))
theorem HvAt.below {w w' : World} {g k : Nat} (h : HvAt w g k) (hb : Below w.heap.size w w') : HvAt w' g k := (hb.cell (World.block_lt_of_cell? _ _ h)).trans h
theorem shr128 (m : Nat) (hm : m < 8) : (128 : Int) / 2 ^ m = c8 (128 >>> UInt8.ofNat m) := by
  have : ∀ m : Fin 8, (128 : Int) / 2 ^ m.val = c8 (128 >>> UInt8.ofNat m.val) := by decide +kernel
  exact this ⟨m, hm⟩
theorem bits_andnot8 (x y : UInt8) : bits .andNot .u8 (c8 x) (c8 y) = c8 (x &&& ~~~y) := by
  show (IntKind.u8.wrap ((BitVec.ofInt 8 (c8 x) &&& ~~~(BitVec.ofInt 8 (c8 y))).toNat : Int)) = _
  rw [bv8, bv8]; exact back8 (x &&& ~~~y)
set_option maxRecDepth 10000 in
set_option maxHeartbeats 4000000 in
theorem hash1_any (g k : Nat) (v : Value) (b : List UInt8) (w : World) (hv : SlB w v b) (hb : b.length ≤ 1073741824) (hk : k ≤ 256) (hg : HvAt w g k) :
    Calls Try.prog 27 #[v, .pointer (some ⟨g, 0, none⟩)] w fun e w' => e = .returned (dg (hashL k b)) ∧ Below w.heap.size w w' := by
  have r0 : RowT 38 (w.alloc (.cells (bs zer).toArray 38 (0, 0))) w.heap.size zer := heap_alloc_new _ _
  have b0 := ext_alloc w (.cells (bs zer).toArray 38 (0, 0))
  have hsum := shaSum_any v b _ (hv.below b0) (by omega)
  have hg0 : HvAt _ g k := hg.below b0
  have hsl := sha_length b
  have hdef : hashL k b = mkN (sha b) k 256 := rfl
  generalize sha b = d at *
  replace hdef : Hid _ := hdef
  clear hv hg
  go_enter Try.func27, Try.ntmps27
  go_wp2_with fail
  refine hsum.mono ?_; rintro e w1 ⟨rfl, b1⟩
  have e2 := ext_alloc w1 (.cells (bs d).toArray 38 (0, 0))
  have rD : RowT 38 (w1.alloc (.cells (bs d).toArray 38 (0, 0))) w1.heap.size d := heap_alloc_new _ _
  have x2 := Ext.trans b1 e2
  have rR := r0.below x2
  have hg2 : w1.cell? ⟨g, 0, none⟩ = some (.int .i64 (k : Int)) := hg0.below b1
  have bw := Ext.trans b0 x2
  have hgl : g < w1.heap.size := Nat.lt_of_lt_of_le (World.block_lt_of_cell? _ _ hg0) b1.size
  have hRl := r0.lt
  have z1 := b1.size
  have zw := (Ext.trans b0 b1).size
  clear r0 b0 hsum b1 e2 x2 hg0
  go_wp2_with ((with_reducible refine at_store ?_); refine arr_dg.store_newL zer_length rfl hsl _ _ rfl rfl rfl ?_)
  have zD : w1.heap.size < w1.heap.size + 1 := Nat.lt_succ_self _
  generalize hWW : World.alloc w1 _ = W0
  have hW2 : w1.alloc (.cells (bs d).toArray 38 (0, 0)) = W0 := by rw [← hWW]
  rw [hW2] at rD rR bw
  have bw' : Below w.heap.size w W0 := bw
  clear bw
  clear hWW hW2 hg2
  generalize hBB : w1.heap.size = B at *
  generalize hAA : w.heap.size = A at *
  replace hAA : Hid _ := hAA
  replace hBB : Hid _ := hBB
  clear zw
  have z1' : Hid (_ ≤ B) := z1
  have hRl' : Hid (A < _) := hRl
  clear z1 hRl
  go_loopw [5] (fun i wr => ∃ j : Nat, k ≤ j ∧ j ≤ 256 ∧ i = .int .i64 j ∧ RowT 38 wr B (mkN d k j) ∧ RowT 38 wr A zer ∧ Below A w wr) (fun i _ => 256 - (intOf i).toNat)
  case atStart => exact ⟨k, Nat.le_refl _, hk, rfl, by rw [mkN_lo d k k (Nat.le_refl _)]; exact rD, rR, bw'⟩
  case round =>
    obtain ⟨j, hkj, hj, rfl, hRj, hRA, bj⟩ := hrel
    have hml := mkN_length d k j
    by_cases hlt : j < 256
    · have hset : mkN d k (j + 1) = (mkN d k j).set (j / 8) ((mkN d k j).getD (j / 8) 0 &&& ~~~(128 >>> UInt8.ofNat (j % 8))) := by rw [mkN, if_neg (by omega)]
      generalize hm2 : mkN d k (j + 1) = m2 at *
      replace hm2 : Hid _ := hm2
      generalize mkN d k j = m at *
      have c1 := hRj.cell (j := j / 8) (by omega)
      have z1 := hRj.set (j / 8) (m.getD (j / 8) 0 &&& ~~~(128 >>> UInt8.ofNat (j % 8)))
      rw [← hset] at z1
      generalize m.getD (j / 8) 0 = y at *
      have h8 : (128 : Int) / 2 ^ (j % 8) = _ := shr128 (j % 8) (by omega)
      have h9 := bits_andnot8 y (128 >>> UInt8.ofNat (j % 8))
      have n0 : ((j : Int) / 8).toNat = j / 8 := by omega
      have n1 : ((j : Int) % 8).toNat = j % 8 := by omega
      have j0 : (0 : Int) ≤ (j : Int) / 8 := by omega
      have j1 : (j : Int) / 8 < 32 := by omega
      have j2 : (0 : Int) ≤ (j : Int) % 8 := by omega
      have j3 : (j : Int) % 8 < 8 := by omega
      generalize (128 : UInt8) >>> UInt8.ofNat (j % 8) = s at *
      clear hset
      go_wp2_with fail
      have hAB : A < B := by have := z1'.out; have := hRl'.out; omega
      have hb2 := below_setCell (k := j / 8) (Below.refl B wr) (Nat.le_refl B) (.int .u8 (c8 (y &&& ~~~s)))
      refine ⟨⟨j + 1, by omega, by omega, by go_num, by rw [hm2.out]; exact z1, (hb2.block A hAB).trans hRA, below_setCell bj (by omega) _⟩, by simp [intOf]; omega⟩
    · obtain rfl : j = 256 := by omega
      have hAB : A < B := by have := z1'.out; have := hRl'.out; omega
      rw [← hdef.out] at hRj hml
      have hml' : (hashL k b).length = 32 := by rw [hml]; exact hsl
      generalize hdd : hashL k b = hd at *
      replace hdd : Hid _ := hdd
      have hret := arr_dg.loadVar (hRA.setRow hd) hml'
      have bz := below_setRow bj (Nat.le_refl _) (bs hd).toArray
      go_wp2_with (first
        | ((with_reducible refine at_store ?_); refine arr_dg.storeL hRA zer_length rfl hml' _ _ rfl rfl rfl ?_)
        | ((with_reducible refine at_load ?_); refine arr_dg.loadL hRj (by rfl) hml' _ rfl rfl ?_)
        | fail)
      exact ret_cell (v := dg hd) Try.results27 rfl hret rfl ⟨by rw [hdd.out], by rw [hAA.out]; exact bz⟩
set_option maxRecDepth 10000 in
set_option maxHeartbeats 4000000 in
theorem rhash_any (k : Nat) (v : Value) (b : List UInt8) (w : World) (hv : SlB w v b) (hb : b.length ≤ 1073741824) (hk : k ≤ 256) :
    Calls Try.prog 35 #[.int .i64 k, v] w fun e w' => e = .returned (dg (hashL k b)) ∧ Below w.heap.size w w' := by
  have r0 : RowT 38 (w.alloc (.cells (bs zer).toArray 38 (0, 0))) w.heap.size zer := heap_alloc_new _ _
  have b0 := ext_alloc w (.cells (bs zer).toArray 38 (0, 0))
  have hsum := rsum_any v b _ (hv.below b0) (by omega)
  have hsl := sha_length b
  have hdef : hashL k b = mkN (sha b) k 256 := rfl
  generalize sha b = d at *
  replace hdef : Hid _ := hdef
  clear hv
  go_enter Try.func35, Try.ntmps35
  go_wp2_with fail
  refine hsum.mono ?_; rintro e w1 ⟨rfl, b1⟩
  have e2 := ext_alloc w1 (.cells (bs d).toArray 38 (0, 0))
  have rD : RowT 38 (w1.alloc (.cells (bs d).toArray 38 (0, 0))) w1.heap.size d := heap_alloc_new _ _
  have x2 := Ext.trans b1 e2
  have rR := r0.below x2
  have bw := Ext.trans b0 x2
  have hRl := r0.lt
  have z1 := b1.size
  have zw := (Ext.trans b0 b1).size
  clear r0 b0 hsum b1 e2 x2
  go_wp2_with ((with_reducible refine at_store ?_); refine arr_dg.store_newL zer_length rfl hsl _ _ rfl rfl rfl ?_)
  have zD : w1.heap.size < w1.heap.size + 1 := Nat.lt_succ_self _
  generalize hWW : World.alloc w1 _ = W0
  have hW2 : w1.alloc (.cells (bs d).toArray 38 (0, 0)) = W0 := by rw [← hWW]
  rw [hW2] at rD rR bw
  have bw' : Below w.heap.size w W0 := bw
  clear bw
  clear hWW hW2
  generalize hBB : w1.heap.size = B at *
  generalize hAA : w.heap.size = A at *
  replace hAA : Hid _ := hAA
  replace hBB : Hid _ := hBB
  clear zw
  have z1' : Hid (_ ≤ B) := z1
  have hRl' : Hid (A < _) := hRl
  clear z1 hRl
  go_loopw [6] (fun i wr => ∃ j : Nat, j ≤ 256 ∧ i = .int .i64 j ∧ RowT 38 wr B (mkN d k j) ∧ RowT 38 wr A zer ∧ Below A w wr) (fun i _ => 256 - (intOf i).toNat)
  case atStart => exact ⟨0, by omega, rfl, rD, rR, bw'⟩
  case round =>
    obtain ⟨j, hj, rfl, hRj, hRA, bj⟩ := hrel
    have hml := mkN_length d k j
    by_cases hlt : j < 256
    · by_cases hkj : k ≤ j
      · have hset : mkN d k (j + 1) = (mkN d k j).set (j / 8) ((mkN d k j).getD (j / 8) 0 &&& ~~~(128 >>> UInt8.ofNat (j % 8))) := by rw [mkN, if_neg (by omega)]
        generalize hm2 : mkN d k (j + 1) = m2 at *
        replace hm2 : Hid _ := hm2
        generalize mkN d k j = m at *
        have c1 := hRj.cell (j := j / 8) (by omega)
        have z1 := hRj.set (j / 8) (m.getD (j / 8) 0 &&& ~~~(128 >>> UInt8.ofNat (j % 8)))
        rw [← hset] at z1
        generalize m.getD (j / 8) 0 = y at *
        have h8 : (128 : Int) / 2 ^ (j % 8) = _ := shr128 (j % 8) (by omega)
        have h9 := bits_andnot8 y (128 >>> UInt8.ofNat (j % 8))
        have n0 : ((j : Int) / 8).toNat = j / 8 := by omega
        have n1 : ((j : Int) % 8).toNat = j % 8 := by omega
        have j0 : (0 : Int) ≤ (j : Int) / 8 := by omega
        have j1 : (j : Int) / 8 < 32 := by omega
        have j2 : (0 : Int) ≤ (j : Int) % 8 := by omega
        have j3 : (j : Int) % 8 < 8 := by omega
        generalize (128 : UInt8) >>> UInt8.ofNat (j % 8) = s at *
        clear hset
        go_wp2_with fail
        have hAB : A < B := by have := z1'.out; have := hRl'.out; omega
        have hb2 := below_setCell (k := j / 8) (Below.refl B wr) (Nat.le_refl B) (.int .u8 (c8 (y &&& ~~~s)))
        refine ⟨⟨j + 1, by omega, by go_num, by rw [hm2.out]; exact z1, (hb2.block A hAB).trans hRA, below_setCell bj (by omega) _⟩, by simp [intOf]; omega⟩
      · have hset : mkN d k (j + 1) = mkN d k j := by rw [mkN, if_pos (by omega)]
        rw [← hset] at hRj
        generalize hm2 : mkN d k (j + 1) = m2 at *
        replace hm2 : Hid _ := hm2
        have hkj' : ¬ (k : Int) ≤ j := by omega
        go_wp2_with fail
        refine ⟨⟨j + 1, by omega, by go_num, by rw [hm2.out]; exact hRj, hRA, bj⟩, by simp [intOf]; omega⟩
    · obtain rfl : j = 256 := by omega
      have hAB : A < B := by have := z1'.out; have := hRl'.out; omega
      rw [← hdef.out] at hRj hml
      have hml' : (hashL k b).length = 32 := by rw [hml]; exact hsl
      generalize hdd : hashL k b = hd at *
      replace hdd : Hid _ := hdd
      have hret := arr_dg.loadVar (hRA.setRow hd) hml'
      have bz := below_setRow bj (Nat.le_refl _) (bs hd).toArray
      go_wp2_with (first
        | ((with_reducible refine at_store ?_); refine arr_dg.storeL hRA zer_length rfl hml' _ _ rfl rfl rfl ?_)
        | ((with_reducible refine at_load ?_); refine arr_dg.loadL hRj (by rfl) hml' _ rfl rfl ?_)
        | fail)
      exact ret_cell (v := dg hd) Try.results35 rfl hret rfl ⟨by rw [hdd.out], by rw [hAA.out]; exact bz⟩
end Go.Proofs.Ytnpbapefjbfndaa
