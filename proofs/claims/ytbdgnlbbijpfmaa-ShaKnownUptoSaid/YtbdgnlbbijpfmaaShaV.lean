/- Digests held against each other, laid into a variable; the laws of chapter 2 that ask no part, walked. -/
import Derived.Test.YtbdgnlbbijpfmaaShaU
import Derived.Lib.SlBytesConst
set_option linter.unusedVariables false
set_option linter.unusedSimpArgs false
namespace Go.Proofs.Ytbdgnlbbijpfmaa
open Go.RowKit
attribute [local go_sem high] guard_dg sha_length unhexL_length hexL_length zer_length

def bad64 : List UInt8 := [65, 51, 98, 48, 99, 52, 52, 50, 57, 56, 102, 99, 49, 99, 49, 52, 57, 97, 102, 98, 102, 52, 99, 56, 57, 57, 54, 102, 98, 57, 50, 52, 50, 55, 97, 101, 52, 49, 101, 52, 54, 52, 57, 98, 57, 51, 52, 99, 97, 52, 57, 53, 57, 57, 49, 98, 55, 56, 53, 50, 98, 56, 53, 53]
theorem bad64_no : isHash bad64 = false := by decide +kernel
set_option maxHeartbeats 1000000 in
theorem wakes_any (w : World) : Calls Try.prog 11 #[] w fun e w' => e = .returned (.bool true) ∧ Below w.heap.size w w' := by
  have kc := fun (w : World) (C : Array Value) (n c : Nat) => Lib.run_convert_bytes_const (P := Try.prog) w 22 5 C n c Try.underlying22 Try.underlying5
  have hu := fun w => unhex_any bad64 w
  simp only [bad64_no, Bool.false_eq_true, if_false] at hu
  go_enter Try.func11, Try.ntmps11
  go_wp2_with fail
  refine (hu _).mono ?_
  rintro e w1 ⟨rfl, b1⟩
  clear hu
  go_wp2_with (refine wpl_store_dg rfl zer_length _ _ rfl rfl rfl ?_)
  refine (shaSum_any _ [] _ (slB_nil _) (by decide)).mono ?_
  rintro e w2 ⟨rfl, b2⟩
  go_wp2_with fail
  refine (hex_any (sha []) rfl _).mono ?_
  rw [sha_hex_nil]
  rintro e w3 ⟨rfl, b3⟩
  go_wp2_with fail
  refine (shaSum_any _ [97, 98, 99] _ (slB_lit _ [97, 98, 99] _ _ (by decide)) (by decide)).mono ?_
  rintro e w4 ⟨rfl, b4⟩
  go_wp2_with fail
  refine (hex_any (sha [97, 98, 99]) rfl _).mono ?_
  rw [sha_hex_abc]
  rintro e w5 ⟨rfl, b5⟩
  go_wp2_with fail
  go_ret
  exact ⟨rfl, Ext.trans b1 (Ext.trans (ext_alloc _ _) (Ext.trans b2 (Ext.trans b3 (Ext.trans (ext_alloc _ _) (Ext.trans b4 b5)))))⟩
set_option maxHeartbeats 1000000 in
theorem law_ShaSums (v : Value) (xs : List UInt8) (w : World) (hv : SlB w v xs) (hl : xs.length ≤ 1048576) :
    Calls Try.prog 3 #[v] w fun e w' => e = .returned (.bool true) ∧ Below w.heap.size w w' := by
  have qe := eql_dg_self (sha xs) (sha_length xs)
  go_enter Try.func3, Try.ntmps3
  go_wp2_with (at_builtin; go_loud (refine wpl_cpB rfl _ _ rfl rfl rfl hv (by omega) ?_))
  intro v1 w1 h1 b1
  replace hv := hv.below b1
  replace h1 := h1.sl
  go_wp2_with fail
  refine (shaSum_any _ xs _ h1 (by omega)).mono ?_
  rintro e w2 ⟨rfl, b2⟩
  replace hv := hv.below b2; replace h1 := h1.below b2
  go_wp2_with fail
  refine (rsum_any _ xs _ hv (by omega)).mono ?_
  rintro e w3 ⟨rfl, b3⟩
  replace hv := hv.below b3; replace h1 := h1.below b3
  have k1 := conv_sl (P := Try.prog) (dst := 9) Try.underlying22 Try.underlying5 Try.underlying9 hv
  have k2 := conv_sl (P := Try.prog) (dst := 9) Try.underlying22 Try.underlying5 Try.underlying9 h1
  go_wp2_with fail
  refine (wakes_any _).mono ?_
  rintro e w4 ⟨rfl, b4⟩
  go_wp2_with fail
  go_ret
  exact ⟨rfl, Ext.trans b1 (Ext.trans b2 (Ext.trans b3 b4))⟩
set_option maxHeartbeats 1000000 in
theorem law_ShaTexts (d s : List UInt8) (w : World) (hd : d.length = 32) :
    Calls Try.prog 4 #[dg d, .string (str s)] w fun e w' => e = .returned (.bool true) ∧ Below w.heap.size w w' := by
  have hr0 : Row32 (w.alloc (.cells (bs d).toArray 24 (0, 0))) w.heap.size d := heap_alloc_new _ _
  have b0 := ext_alloc w (.cells (bs d).toArray 24 (0, 0))
  have h1 := fun w => unhex_any s w
  have h2 := fun w => runhex_any s w
  have hul : (if isHash s then unhexL s else zer).length = 32 := by split <;> rfl
  generalize (if isHash s then unhexL s else zer) = u at h1 h2 hul
  generalize (if isHash s then (0 : Int) else 5) = ec at h1 h2
  have qe := eql_dg_self u hul
  change Calls _ _ #[.agg (bs d).toArray, _] _ _
  go_enter Try.func4, Try.ntmps4
  go_wp2_with fail
  refine (h1 _).mono ?_
  rintro e w1 ⟨rfl, b1⟩
  have r1 := hr0.below b1
  go_wp2_with (refine wpl_store_dg rfl hul _ _ rfl rfl rfl ?_)
  have r2 := r1.below (ext_alloc w1 (.cells (bs u).toArray 24 (0, 0)))
  have x2 : Row32 (w1.alloc (.cells (bs u).toArray 24 (0, 0))) w1.heap.size u := heap_alloc_new _ _
  have b2 := Ext.trans b0 (Ext.trans b1 (ext_alloc w1 (.cells (bs u).toArray 24 (0, 0))))
  generalize (w1.alloc (.cells (bs u).toArray 24 (0, 0))) = w2 at *
  refine (h2 _).mono ?_
  rintro e w3 ⟨rfl, b3⟩
  have r3 := r2.below b3
  have x3 := x2.below b3
  go_wp2_with (refine wpl_store_dg rfl hul _ _ rfl rfl rfl ?_)
  have r4 := r3.below (ext_alloc w3 (.cells (bs u).toArray 24 (0, 0)))
  have x4 := x3.below (ext_alloc w3 (.cells (bs u).toArray 24 (0, 0)))
  have y4 : Row32 (w3.alloc (.cells (bs u).toArray 24 (0, 0))) w3.heap.size u := heap_alloc_new _ _
  have b4 := Ext.trans b2 (Ext.trans b3 (ext_alloc w3 (.cells (bs u).toArray 24 (0, 0))))
  generalize (w3.alloc (.cells (bs u).toArray 24 (0, 0))) = w4 at *
  have hcur : Below w.heap.size w w4 := b4
  have e0 := Ext.refl w4
  refine wp_region_E (by kernel_rfl) ?_
  replace hcur := below_via hcur (ext_drew _)
  replace e0 := Ext.trans e0 (ext_drew _)
  refine wpAnyE_take (i := 0) (v := ?_) (some 19) rfl rfl (by kernel_rfl) (by kernel_rfl) (by kernel_rfl) (fun _ _ _ h => h) ?_ ?_
  rotate_left 1
  · (refine Or.inl ⟨by rfl, ?_⟩; intro w' hw'; have hq := below_via hcur hw'; have hq_e0 := Ext.trans e0 hw'; (refine ex_load_dg (r4.below hq_e0) hd (.tmp 2) ?_ ?_ <;> rfl))
  try simp only [Act.put, List.setIfInBounds_toArray, List.set_cons_zero, List.set_cons_succ]
  refine wpAnyE_take (i := 2) (v := ?_) (some 21) rfl rfl (by kernel_rfl) (by kernel_rfl) (by kernel_rfl) (fun _ _ _ h => h) ?_ ?_
  rotate_left 1
  · (refine Or.inl ⟨by rfl, ?_⟩; intro w' hw'; have hq := below_via hcur hw'; have hq_e0 := Ext.trans e0 hw'; (refine ex_load_dg (r4.below hq_e0) hd (.tmp 2) ?_ ?_ <;> rfl))
  try simp only [Act.put, List.setIfInBounds_toArray, List.set_cons_zero, List.set_cons_succ]
  refine wpAnyE_one (i := 1) rfl (by kernel_rfl) (by rfl) (fun K hK => ?_)
  go_simp
  (with_reducible refine (hex_any d hd _).mono ?_); rintro e w5 ⟨rfl, hb⟩
  refine hK.out _ _ hb ?_
  replace hcur := below_via hcur hb; clear hK K
  replace e0 := Ext.trans e0 hb
  try simp only [Act.put, List.setIfInBounds_toArray, List.set_cons_zero, List.set_cons_succ]
  refine wpAnyE_one (i := 3) rfl (by kernel_rfl) (by rfl) (fun K hK => ?_)
  go_simp
  (with_reducible refine (rhex_any d hd _).mono ?_); rintro e w5 ⟨rfl, hb⟩
  refine hK.out _ _ hb ?_
  replace hcur := below_via hcur hb; clear hK K
  replace e0 := Ext.trans e0 hb
  try simp only [Act.put, List.setIfInBounds_toArray, List.set_cons_zero, List.set_cons_succ]
  refine wpAnyE_take (i := 4) (v := ?_) (some 23) rfl rfl (by kernel_rfl) (by kernel_rfl) (by kernel_rfl) (fun _ _ _ h => h) ?_ ?_
  rotate_left 1
  · (refine Or.inl ⟨by rfl, ?_⟩; intro w' hw'; have hq := below_via hcur hw'; have hq_e0 := Ext.trans e0 hw'; (try go_simp); (try rfl); done)
  try simp only [Act.put, List.setIfInBounds_toArray, List.set_cons_zero, List.set_cons_succ]
  refine wpAnyE_take (i := 5) (v := ?_) (some 24) rfl rfl (by kernel_rfl) (by kernel_rfl) (by kernel_rfl) (fun _ _ _ h => h) ?_ ?_
  rotate_left 1
  · (refine Or.inl ⟨by rfl, ?_⟩; intro w' hw'; have hq := below_via hcur hw'; have hq_e0 := Ext.trans e0 hw'; (try go_simp); (try rfl); done)
  try simp only [Act.put, List.setIfInBounds_toArray, List.set_cons_zero, List.set_cons_succ]
  refine wpAnyE_take (i := 6) (v := ?_) (some 25) rfl rfl (by kernel_rfl) (by kernel_rfl) (by kernel_rfl) (fun _ _ _ h => h) ?_ ?_
  rotate_left 1
  · (refine Or.inl ⟨by rfl, ?_⟩; intro w' hw'; have hq := below_via hcur hw'; have hq_e0 := Ext.trans e0 hw'; (refine ex_load_dg (x4.below hq_e0) hul (.tmp 5) ?_ ?_ <;> rfl))
  try simp only [Act.put, List.setIfInBounds_toArray, List.set_cons_zero, List.set_cons_succ]
  refine wpAnyE_take (i := 7) (v := ?_) (some 26) rfl rfl (by kernel_rfl) (by kernel_rfl) (by kernel_rfl) (fun _ _ _ h => h) ?_ ?_
  rotate_left 1
  · (refine Or.inl ⟨by rfl, ?_⟩; intro w' hw'; have hq := below_via hcur hw'; have hq_e0 := Ext.trans e0 hw'; (refine ex_load_dg (y4.below hq_e0) hul (.tmp 7) ?_ ?_ <;> rfl))
  try simp only [Act.put, List.setIfInBounds_toArray, List.set_cons_zero, List.set_cons_succ]
  refine wpAnyE_take (i := 8) (v := ?_) (some 27) rfl rfl (by kernel_rfl) (by kernel_rfl) (by kernel_rfl) (fun _ _ _ h => h) ?_ ?_
  rotate_left 1
  · (refine Or.inl ⟨by rfl, ?_⟩; intro w' hw'; have hq := below_via hcur hw'; have hq_e0 := Ext.trans e0 hw'; (try go_simp); (try rfl); done)
  try simp only [Act.put, List.setIfInBounds_toArray, List.set_cons_zero, List.set_cons_succ]
  refine wpAnyE_take (i := 9) (v := ?_) (some 28) rfl rfl (by kernel_rfl) (by kernel_rfl) (by kernel_rfl) (fun _ _ _ h => h) ?_ ?_
  rotate_left 1
  · (refine Or.inl ⟨by rfl, ?_⟩; intro w' hw'; have hq := below_via hcur hw'; have hq_e0 := Ext.trans e0 hw'; (try go_simp); (try rfl); done)
  try simp only [Act.put, List.setIfInBounds_toArray, List.set_cons_zero, List.set_cons_succ]
  refine wpAnyE_take (i := 10) (v := ?_) (some 29) rfl rfl (by kernel_rfl) (by kernel_rfl) (by kernel_rfl) (fun _ _ _ h => h) ?_ ?_
  rotate_left 1
  · (refine Or.inl ⟨by rfl, ?_⟩; intro w' hw'; have hq := below_via hcur hw'; have hq_e0 := Ext.trans e0 hw'; (try go_simp); (try rfl); done)
  try simp only [Act.put, List.setIfInBounds_toArray, List.set_cons_zero, List.set_cons_succ]
  refine wpAnyE_take (i := 11) (v := ?_) (some 30) rfl rfl (by kernel_rfl) (by kernel_rfl) (by kernel_rfl) (fun _ _ _ h => h) ?_ ?_
  rotate_left 1
  · (refine Or.inl ⟨by rfl, ?_⟩; intro w' hw'; have hq := below_via hcur hw'; have hq_e0 := Ext.trans e0 hw'; (try go_simp); (try rfl); done)
  try simp only [Act.put, List.setIfInBounds_toArray, List.set_cons_zero, List.set_cons_succ]
  refine wpAnyE_take (i := 12) (v := ?_) (some 31) rfl rfl (by kernel_rfl) (by kernel_rfl) (by kernel_rfl) (fun _ _ _ h => h) ?_ ?_
  rotate_left 1
  · (refine Or.inl ⟨by rfl, ?_⟩; intro w' hw'; have hq := below_via hcur hw'; have hq_e0 := Ext.trans e0 hw'; (try go_simp); (try rfl); done)
  try simp only [Act.put, List.setIfInBounds_toArray, List.set_cons_zero, List.set_cons_succ]
  refine wpAnyE_take (i := 13) (v := ?_) (some 32) rfl rfl (by kernel_rfl) (by kernel_rfl) (by kernel_rfl) (fun _ _ _ h => h) ?_ ?_
  rotate_left 1
  · (refine Or.inl ⟨by rfl, ?_⟩; intro w' hw'; have hq := below_via hcur hw'; have hq_e0 := Ext.trans e0 hw'; (try go_simp); (try rfl); done)
  try simp only [Act.put, List.setIfInBounds_toArray, List.set_cons_zero, List.set_cons_succ]
  refine wpAnyE_take (i := 14) (v := ?_) (some 33) rfl rfl (by kernel_rfl) (by kernel_rfl) (by kernel_rfl) (fun _ _ _ h => h) ?_ ?_
  rotate_left 1
  · (refine Or.inl ⟨by rfl, ?_⟩; intro w' hw'; have hq := below_via hcur hw'; have hq_e0 := Ext.trans e0 hw'; (try go_simp); (try rfl); done)
  try simp only [Act.put, List.setIfInBounds_toArray, List.set_cons_zero, List.set_cons_succ]
  refine wpAnyE_take (i := 15) (v := ?_) (some 34) rfl rfl (by kernel_rfl) (by kernel_rfl) (by kernel_rfl) (fun _ _ _ h => h) ?_ ?_
  rotate_left 1
  · (refine Or.inl ⟨by rfl, ?_⟩; intro w' hw'; have hq := below_via hcur hw'; have hq_e0 := Ext.trans e0 hw'; (try go_simp); (try rfl); done)
  try simp only [Act.put, List.setIfInBounds_toArray, List.set_cons_zero, List.set_cons_succ]
  refine wpAnyE_one (i := 16) rfl (by kernel_rfl) (by rfl) (fun K hK => ?_)
  go_simp
  (with_reducible refine (wakes_any _).mono ?_); rintro e w5 ⟨rfl, hb⟩
  refine hK.out _ _ hb ?_
  replace hcur := below_via hcur hb; clear hK K
  replace e0 := Ext.trans e0 hb
  try simp only [Act.put, List.setIfInBounds_toArray, List.set_cons_zero, List.set_cons_succ]
  refine wpAnyE_take (i := 17) (v := ?_) (some 36) rfl rfl (by kernel_rfl) (by kernel_rfl) (by kernel_rfl) (fun _ _ _ h => h) ?_ ?_
  rotate_left 1
  · (refine Or.inl ⟨by rfl, ?_⟩; intro w' hw'; have hq := below_via hcur hw'; have hq_e0 := Ext.trans e0 hw'; (try go_simp); (try rfl); done)
  try simp only [Act.put, List.setIfInBounds_toArray, List.set_cons_zero, List.set_cons_succ]
  refine wpAnyE_take (i := 18) (v := ?_) (some 4) rfl rfl (by kernel_rfl) (by kernel_rfl) (by kernel_rfl) (fun _ _ _ h => h) ?_ ?_
  rotate_left 1
  · (refine Or.inl ⟨by rfl, ?_⟩; intro w' hw'; have hq := below_via hcur hw'; have hq_e0 := Ext.trans e0 hw'; (try go_simp); (try rfl); done)
  try simp only [Act.put, List.setIfInBounds_toArray, List.set_cons_zero, List.set_cons_succ]
  refine wpAnyE_done (by kernel_rfl) ?_ _
  go_wp2_with fail
  go_ret
  exact ⟨rfl, hcur⟩
end Go.Proofs.Ytbdgnlbbijpfmaa
