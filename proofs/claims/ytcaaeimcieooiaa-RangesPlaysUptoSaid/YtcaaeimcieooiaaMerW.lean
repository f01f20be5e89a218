/- Leaf, Node of the program and of the reference; bits.Len (walks). -/
import Derived.Test.YtcaaeimcieooiaaCp
import Derived.Test.YtcaaeimcieooiaaMerM
import Derived.Test.YtcaaeimcieooiaaAt
import Derived.Lib.Tables
set_option linter.unusedVariables false
set_option linter.unusedSimpArgs false
namespace Go.Proofs.Ytcaaeimcieooiaa
open Go.RowKit
attribute [local go_sem high] dg_cells

set_option maxHeartbeats 1000000 in
theorem leaf_any (v : Value) (b : List UInt8) (w : World) (hv : SlB w v b) (hlen : b.length ≤ 1073741824) :
    Calls Try.prog 19 #[v] w fun e w' => e = .returned (dg (leafL b)) ∧ Below w.heap.size w w' := by
  have r0 : RowT 29 (w.alloc (.cells (bs zer).toArray 29 (0, 0))) w.heap.size zer := heap_alloc_new _ _
  have b0 := ext_alloc w (.cells (bs zer).toArray 29 (0, 0))
  have z0 := size_alloc w (.cells (bs zer).toArray 29 (0, 0))
  go_enter Try.func19, Try.ntmps19
  go_wp2_with fail
  refine (new_any _).mono ?_
  rintro e w1 ⟨x, rfl, hx, hs1, b1⟩
  replace hx : w.heap.size + 1 ≤ x := by rw [← z0]; exact hx
  have r1 := r0.below b1
  have bw1 := Ext.trans b0 b1
  clear r0 b0 b1 z0
  go_wp2_with fail
  have be := ext_alloc w1 (.cells #[.int .u8 (c8 0)] 5 (0, 0))
  refine (write_any x [] [0] _ _ (hs1.below be) (slB_one w1 0 _ _) (fun _ => apart_new _ _ hs1 _ _) (by simp)).mono ?_
  rintro e w2 ⟨rfl, hs2, g2⟩
  have r2 : RowT 29 w2 w.heap.size zer := (g2.block _ (r1.below be).lt (by intro e; cases e; omega)).trans (r1.below be)
  have bw2 := below_grown_at (Ext.trans bw1 be) g2 (Ext.trans bw1 be).size (by omega)
  clear be g2 r1 bw1 hs1
  go_wp2_with fail
  refine (write_any x ([] ++ [0]) b _ _ hs2 (hv.below bw2) (fun hne => apart_lt hv hne (by omega)) (by simp; omega)).mono ?_
  rintro e w3 ⟨rfl, hs3, g3⟩
  have r3 : RowT 29 w3 w.heap.size zer := (g3.block _ r2.lt (by intro e; cases e; omega)).trans r2
  have bw3 := below_grown_at bw2 g3 bw2.size (by omega)
  have hs3' : St w3 x (0 :: b) := hs3
  clear g3 r2 bw2 hs2 hs3
  go_wp2_with fail
  refine (sumSt_any x (0 :: b) _ hs3' (by simp; omega)).mono ?_
  rintro e w4 ⟨rfl, b4⟩
  have r4 := r3.below b4
  have bw4 := Below.trans bw3 (b4.mono bw3.size)
  have hdl := leafL_length b
  have hle : Hid (leafL b = sha (0 :: b)) := rfl
  rw [← hle.out]
  generalize hdd : leafL b = dd at *
  replace hdd : Hid _ := hdd
  have hret := arr_dg.loadVar (r4.setRow dd) hdl
  have bz := below_setRow bw4 (Nat.le_refl _) (bs dd).toArray
  go_wp2_with ((with_reducible refine at_store ?_); refine arr_dg.storeL r4 zer_length rfl hdl _ _ rfl rfl rfl ?_)
  exact ret_cell (v := dg dd) Try.results19 rfl hret rfl ⟨by rw [hdd.out], bz⟩

theorem len8_get' (y : Int) (h : y.toNat < Lib.len8tab.size) : ((Lib.len8tab[y.toNat]'h).toNat : Int) = Lib.len8 y := by
  unfold Lib.len8
  rw [getElem?_pos Lib.len8tab y.toNat h]
  rfl
set_option maxHeartbeats 4000000 in
set_option maxRecDepth 100000 in
theorem len64_any (x : Int) (w : World) (h0 : 0 ≤ x) (h1 : x ≤ 16777215) :
    Calls Try.prog 37 #[.int .u64 x] w fun e w' => e = .returned (.int .i64 (Lib.bitLen x.toNat)) ∧ w = w' := by
  have g1 : ¬ (4294967296 : Int) ≤ x := by omega
  go_enter Try.func37, Try.ntmps37
  go_wp2
  all_goals have hs : (Lib.len8tab.size : Int) = 256 := by have : Lib.len8tab.size = 256 := Lib.len8tab_size; omega
  all_goals first
    | (go_ret; refine ⟨congrArg Ending.returned (congrArg (Value.int IntKind.i64) ?_), rfl⟩)
    | (exfalso; omega)
  all_goals first
    | (rw [len8_get' (x / 65536) _, Lib.len8_of (x / 65536) (by omega) (by omega)]
       have e : (x / 65536).toNat = x.toNat / 65536 := by omega
       have l := Lib.bitLen_le8' (x / 65536) (by omega) (by omega)
       have s := Lib.bitLen_shift16 x.toNat (by omega) (by omega)
       rw [e] at l ⊢
       unfold RowKit.wrap64
       omega)
    | (rw [len8_get' (x / 256) _, Lib.len8_of (x / 256) (by omega) (by omega)]
       have e : (x / 256).toNat = x.toNat / 256 := by omega
       have l := Lib.bitLen_le8' (x / 256) (by omega) (by omega)
       have s := Lib.bitLen_shift8 x.toNat (by omega) (by omega)
       rw [e] at l ⊢
       unfold RowKit.wrap64
       omega)
    | (rw [len8_get' x _, Lib.len8_of x (by omega) (by omega)]
       have l := Lib.bitLen_le8' x (by omega) (by omega)
       unfold RowKit.wrap64
       omega)
theorem len_any (x : Int) (w : World) (h0 : 0 ≤ x) (h1 : x ≤ 16777215) :
    Calls Try.prog 29 #[.int .u64 x] w fun e w' => e = .returned (.int .i64 (Lib.bitLen x.toNat)) ∧ w = w' := by
  go_enter Try.func29, Try.ntmps29
  go_wp2_with fail
  refine (len64_any x _ h0 h1).mono ?_
  rintro e w' ⟨rfl, rfl⟩
  go_wp2
  go_ret
  exact ⟨rfl, rfl⟩
end Go.Proofs.Ytcaaeimcieooiaa
