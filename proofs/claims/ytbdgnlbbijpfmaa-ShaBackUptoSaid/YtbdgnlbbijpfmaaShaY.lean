/- Laws of chapter 2, walked: ShaBack, ShaParts. -/
import Derived.Test.YtbdgnlbbijpfmaaShaV
set_option linter.unusedVariables false
set_option linter.unusedSimpArgs false
namespace Go.Proofs.Ytbdgnlbbijpfmaa
open Go.RowKit
attribute [local go_sem high] guard_dg sha_length unhexL_length hexL_length zer_length

set_option maxHeartbeats 2000000 in
theorem law_ShaBack (d s : List UInt8) (w : World) (hd : d.length = 32) :
    Calls Try.prog 5 #[dg d, .string (str s)] w fun e w' => e = .returned (.bool true) ∧ Below w.heap.size w w' := by
  have hr0 : Row32 (w.alloc (.cells (bs d).toArray 24 (0, 0))) w.heap.size d := heap_alloc_new _ _
  have b0 := ext_alloc w (.cells (bs d).toArray 24 (0, 0))
  have h1 := fun w => unhex_any (hexL d) w
  simp only [isHash_hexL, if_true, unhexL_hexL d hd] at h1
  have qn := neq_dg_self d hd
  change Calls _ _ #[.agg (bs d).toArray, _] _ _
  go_enter Try.func5, Try.ntmps5
  go_wp2_with (refine wpl_load_dg hr0 rfl hd _ rfl rfl ?_)
  refine (hex_any d hd _).mono ?_
  rintro e w1 ⟨rfl, b1⟩
  have r1 := hr0.below b1
  have bw1 := Ext.trans b0 b1
  clear hr0 b0 b1
  go_wp2_with fail
  refine (h1 _).mono ?_
  rintro e w2 ⟨rfl, b2⟩
  have r2 := r1.below b2
  have bw2 := Ext.trans bw1 b2
  clear r1 bw1 b2 h1
  have r3 := r2.below (ext_alloc w2 (.cells (bs d).toArray 24 (0, 0)))
  have x3 : Row32 (w2.alloc (.cells (bs d).toArray 24 (0, 0))) w2.heap.size d := heap_alloc_new _ _
  have bw3 := Ext.trans bw2 (ext_alloc w2 (.cells (bs d).toArray 24 (0, 0)))
  clear r2 bw2
  go_wp2_with (first | (refine wpl_store_dg rfl hd _ _ rfl rfl rfl ?_) | (refine wpl_load_dg' r3 (by rfl) hd _ rfl rfl ?_) | (refine wpl_load_dg' x3 (by rfl) hd _ rfl rfl ?_))
  refine (hex_any d hd _).mono ?_
  rintro e w4 ⟨rfl, b4⟩
  have bw4 := Ext.trans bw3 b4
  clear r3 x3 bw3 b4
  have hlen : (hexL d).length = 64 := hexL_length d
  go_wp2_with fail
  have hun := unhex_any s w4
  have hul : (if isHash s then unhexL s else zer).length = 32 := by split <;> rfl
  by_cases hh : isHash s = true
  · rw [if_pos hh] at hun hul
    refine hun.mono ?_
    rintro e w5 ⟨rfl, b5⟩
    simp only [hh, if_true]
    have bw5 := Ext.trans bw4 b5
    have x6 : Row32 (w5.alloc (.cells (bs (unhexL s)).toArray 24 (0, 0))) w5.heap.size (unhexL s) := heap_alloc_new _ _
    have bw6 := Ext.trans bw5 (ext_alloc w5 (.cells (bs (unhexL s)).toArray 24 (0, 0)))
    have hhx := hexL_unhexL s hh
    clear bw4 b5 bw5
    go_wp2_with (first | (refine wpl_store_dg rfl hul _ _ rfl rfl rfl ?_) | (refine wpl_load_dg x6 rfl hul _ rfl rfl ?_))
    refine (hex_any (unhexL s) hul _).mono ?_
    rw [hhx]
    rintro e w7 ⟨rfl, b7⟩
    go_wp2_with fail
    refine (wakes_any _).mono ?_
    rintro e w8 ⟨rfl, b8⟩
    go_wp2_with fail
    go_ret
    exact ⟨rfl, Ext.trans bw6 (Ext.trans b7 b8)⟩
  · rw [if_neg hh] at hun hul
    refine hun.mono ?_
    rintro e w5 ⟨rfl, b5⟩
    rw [Bool.not_eq_true] at hh
    simp only [hh, Bool.false_eq_true, if_false]
    have bw5 := Ext.trans bw4 b5
    have x6 : Row32 (w5.alloc (.cells (bs zer).toArray 24 (0, 0))) w5.heap.size zer := heap_alloc_new _ _
    have bw6 := Ext.trans bw5 (ext_alloc w5 (.cells (bs zer).toArray 24 (0, 0)))
    have qz : ∀ w', (binOp .eql 24 (dg zer) (.agg #[.int .u8 0, .int .u8 0, .int .u8 0, .int .u8 0, .int .u8 0, .int .u8 0, .int .u8 0, .int .u8 0, .int .u8 0, .int .u8 0, .int .u8 0, .int .u8 0, .int .u8 0, .int .u8 0, .int .u8 0, .int .u8 0, .int .u8 0, .int .u8 0, .int .u8 0, .int .u8 0, .int .u8 0, .int .u8 0, .int .u8 0, .int .u8 0, .int .u8 0, .int .u8 0, .int .u8 0, .int .u8 0, .int .u8 0, .int .u8 0, .int .u8 0, .int .u8 0])).run Try.prog w' = .ok (.bool true) w' := fun w' => eql_dg_self zer zer_length w'
    have qg : ∀ x y w', (eqGuard .eql 24 x y (dg zer) (.agg #[.int .u8 0, .int .u8 0, .int .u8 0, .int .u8 0, .int .u8 0, .int .u8 0, .int .u8 0, .int .u8 0, .int .u8 0, .int .u8 0, .int .u8 0, .int .u8 0, .int .u8 0, .int .u8 0, .int .u8 0, .int .u8 0, .int .u8 0, .int .u8 0, .int .u8 0, .int .u8 0, .int .u8 0, .int .u8 0, .int .u8 0, .int .u8 0, .int .u8 0, .int .u8 0, .int .u8 0, .int .u8 0, .int .u8 0, .int .u8 0, .int .u8 0, .int .u8 0])).run Try.prog w' = .ok () w' := fun x y w' => guard_dg .eql x y zer zer w'
    clear bw4 b5 bw5
    go_wp2_with (first | (refine wpl_store_dg rfl zer_length _ _ rfl rfl rfl ?_) | (refine wpl_load_dg' x6 (by rfl) zer_length _ rfl rfl ?_))
    refine (wakes_any _).mono ?_
    rintro e w8 ⟨rfl, b8⟩
    go_wp2_with fail
    go_ret
    exact ⟨rfl, Ext.trans bw6 b8⟩
end Go.Proofs.Ytbdgnlbbijpfmaa
