/- The laws of chapter 6 on marks, walked. -/
import Derived.Test.YtpdkonkgkjkkmaaSigW
set_option linter.unusedVariables false
set_option linter.unusedSimpArgs false
namespace Go.Proofs.Ytpdkonkgkjkkmaa
open Go.RowKit
attribute [local go_sem high] dg_cells

theorem ex_load {t : TypeId} {n : Nat} (T : Arr8 t n) {o : Oper} {a : Act} {w : World} {x : List UInt8} {B : Nat} (hB : RowT t w B x) (hx : x.length = n) (p : Operand) (ho : o.op = .load t p) (hp : a.eval p = .pointer (some ⟨B, 0, none⟩)) :
    (execOp a.eval o).run Try.prog w = .ok (.value (dg x)) w := T.ex hB hx p ho hp
set_option maxHeartbeats 2000000 in
theorem law_SignMarks (s : List UInt8) (v : Value) (b : List UInt8) (w : World) (hs : s.length = 64) (hv : SlB w v b) (hlb : b.length ≤ 1048576) :
    Calls Try.prog 3 #[dg s, v] w fun e w' => e = .returned (.bool true) ∧ Below w.heap.size w w' := by
  have hr0 : RowT 22 (w.alloc (.cells (bs s).toArray 22 (0, 0))) w.heap.size s := heap_alloc_new _ _
  have b0 := ext_alloc w (.cells (bs s).toArray 22 (0, 0))
  have hv0 := hv.below b0
  have h1 := unmark_any v b _ hv0
  have h2 := fun w h => runmark_any v b w h
  have hul : (if isMark b then b.drop 4 else zer64).length = 64 := by
    split
    · rename_i h; have := ((isMark_iff b).1 h).1; simp; omega
    · rfl
  generalize (if isMark b then b.drop 4 else zer64) = u at h1 h2 hul
  generalize (if isMark b then (0 : Int) else 5) = ec at h1 h2
  have qe := arr_sg.eqlSelf u hul
  have qg := fun op x y w => arr_sg.guard op x y u u w
  change Calls _ _ #[.agg (bs s).toArray, _] _ _
  go_enter Try.func3, Try.ntmps3
  go_wp2_with fail
  refine h1.mono ?_
  rintro e w1 ⟨rfl, b1⟩
  have r1 := hr0.below b1
  go_wp2_with (refine arr_sg.store_newL zer64_length rfl hul _ _ rfl rfl rfl ?_)
  have b2 := ext_alloc w1 (.cells (bs u).toArray 22 (0, 0))
  have r2 := r1.below b2
  have x2 : RowT 22 (w1.alloc (.cells (bs u).toArray 22 (0, 0))) w1.heap.size u := heap_alloc_new _ _
  have hv2 := (hv0.below b1).below b2
  have bw2 := Ext.trans b0 (Ext.trans b1 b2)
  generalize w1.alloc (.cells (bs u).toArray 22 (0, 0)) = w2 at *
  refine (h2 _ hv2).mono ?_
  rintro e w3 ⟨rfl, b3⟩
  have r3 := r2.below b3
  have x3 := x2.below b3
  go_wp2_with (refine arr_sg.store_newL zer64_length rfl hul _ _ rfl rfl rfl ?_)
  have b4 := ext_alloc w3 (.cells (bs u).toArray 22 (0, 0))
  have r4 := r3.below b4
  have x4 := x3.below b4
  have y4 : RowT 22 (w3.alloc (.cells (bs u).toArray 22 (0, 0))) w3.heap.size u := heap_alloc_new _ _
  have bw4 := Ext.trans bw2 (Ext.trans b3 b4)
  generalize w3.alloc (.cells (bs u).toArray 22 (0, 0)) = w4 at *
  clear h1 h2 hr0 hv0 b1 b2 b3 r1 r2 x2 x3 r3 hv2 hv
  have hcur : Below w.heap.size w w4 := bw4
  have e0 := Ext.refl w4
  refine wp_region_E (by kernel_rfl) ?_
  replace hcur := below_via hcur (ext_drew _)
  replace e0 := Ext.trans e0 (ext_drew _)
  refine wpAnyE_take (i := 0) (v := ?_) (some 19) rfl rfl (by kernel_rfl) (by kernel_rfl) (by kernel_rfl) (fun _ _ _ h => h) ?_ ?_
  rotate_left 1
  · (refine Or.inl ⟨by rfl, ?_⟩; intro w' hw'; have hq := below_via hcur hw'; have hq_e0 := Ext.trans e0 hw'; (refine ex_load arr_sg (r4.below hq_e0) hs (.tmp 2) ?_ ?_ <;> rfl))
  try simp only [Act.put, List.setIfInBounds_toArray, List.set_cons_zero, List.set_cons_succ]
  refine wpAnyE_take (i := 3) (v := ?_) (some 22) rfl rfl (by kernel_rfl) (by kernel_rfl) (by kernel_rfl) (fun _ _ _ h => h) ?_ ?_
  rotate_left 1
  · (refine Or.inl ⟨by rfl, ?_⟩; intro w' hw'; have hq := below_via hcur hw'; have hq_e0 := Ext.trans e0 hw'; (refine ex_load arr_sg (r4.below hq_e0) hs (.tmp 2) ?_ ?_ <;> rfl))
  try simp only [Act.put, List.setIfInBounds_toArray, List.set_cons_zero, List.set_cons_succ]
  refine wpAnyE_one (i := 1) rfl (by kernel_rfl) (by rfl) (fun K hK => ?_)
  go_simp
  (with_reducible refine (mark_any s hs _).mono ?_); rintro e w5 ⟨v5, rfl, h5, hb⟩
  refine hK.out _ _ hb ?_
  replace hcur := below_via hcur hb; clear hK K
  replace e0 := Ext.trans e0 hb
  try simp only [Act.put, List.setIfInBounds_toArray, List.set_cons_zero, List.set_cons_succ]
  have k5 := fun (w' : World) (h : Ext w5 w') => conv_sl (P := Try.prog) (dst := 9) Try.underlying23 Try.underlying5 Try.underlying9 (h5.sl.below h)
  refine wpAnyE_take (i := 2) (v := ?_) (some 21) rfl rfl (by kernel_rfl) (by kernel_rfl) (by kernel_rfl) (fun _ _ _ h => h) ?_ ?_
  rotate_left 1
  · (refine Or.inl ⟨by rfl, ?_⟩; intro w' hw'; have hq := below_via hcur hw'; have hq_e0 := Ext.trans e0 hw'; (try go_simp); (try rfl); done)
  try simp only [Act.put, List.setIfInBounds_toArray, List.set_cons_zero, List.set_cons_succ]
  refine wpAnyE_one (i := 4) rfl (by kernel_rfl) (by rfl) (fun K hK => ?_)
  go_simp
  (with_reducible refine (rmark_any s hs _).mono ?_); rintro e w6 ⟨v6, rfl, h6, hb⟩
  refine hK.out _ _ hb ?_
  replace hcur := below_via hcur hb; clear hK K
  replace e0 := Ext.trans e0 hb
  try simp only [Act.put, List.setIfInBounds_toArray, List.set_cons_zero, List.set_cons_succ]
  have k6 := fun (w' : World) (h : Ext w6 w') => conv_sl (P := Try.prog) (dst := 9) Try.underlying23 Try.underlying5 Try.underlying9 (h6.sl.below h)
  refine wpAnyE_take (i := 5) (v := ?_) (some 24) rfl rfl (by kernel_rfl) (by kernel_rfl) (by kernel_rfl) (fun _ _ _ h => h) ?_ ?_
  rotate_left 1
  · (refine Or.inl ⟨by rfl, ?_⟩; intro w' hw'; have hq := below_via hcur hw'; have hq_e0 := Ext.trans e0 hw'; (try go_simp); (try rfl); done)
  try simp only [Act.put, List.setIfInBounds_toArray, List.set_cons_zero, List.set_cons_succ]
  refine wpAnyE_take (i := 6) (v := ?_) (some 25) rfl rfl (by kernel_rfl) (by kernel_rfl) (by kernel_rfl) (fun _ _ _ h => h) ?_ ?_
  rotate_left 1
  · (refine Or.inl ⟨by rfl, ?_⟩; intro w' hw'; have hq := below_via hcur hw'; have hq_e0 := Ext.trans e0 hw'; (try go_simp); (try rfl); done)
  try simp only [Act.put, List.setIfInBounds_toArray, List.set_cons_zero, List.set_cons_succ]
  refine wpAnyE_take (i := 7) (v := ?_) (some 26) rfl rfl (by kernel_rfl) (by kernel_rfl) (by kernel_rfl) (fun _ _ _ h => h) ?_ ?_
  rotate_left 1
  · (refine Or.inl ⟨by rfl, ?_⟩; intro w' hw'; have hq := below_via hcur hw'; have hq_e0 := Ext.trans e0 hw'; (try go_simp); (try rfl); done)
  try simp only [Act.put, List.setIfInBounds_toArray, List.set_cons_zero, List.set_cons_succ]
  refine wpAnyE_take (i := 8) (v := ?_) (some 27) rfl rfl (by kernel_rfl) (by kernel_rfl) (by kernel_rfl) (fun _ _ _ h => h) ?_ ?_
  rotate_left 1
  · (refine Or.inl ⟨by rfl, ?_⟩; intro w' hw'; have hq := below_via hcur hw'; have hq_e0 := Ext.trans e0 hw'; (refine ex_load arr_sg (x4.below hq_e0) hul (.tmp 5) ?_ ?_ <;> rfl))
  try simp only [Act.put, List.setIfInBounds_toArray, List.set_cons_zero, List.set_cons_succ]
  refine wpAnyE_take (i := 9) (v := ?_) (some 28) rfl rfl (by kernel_rfl) (by kernel_rfl) (by kernel_rfl) (fun _ _ _ h => h) ?_ ?_
  rotate_left 1
  · (refine Or.inl ⟨by rfl, ?_⟩; intro w' hw'; have hq := below_via hcur hw'; have hq_e0 := Ext.trans e0 hw'; (refine ex_load arr_sg (y4.below hq_e0) hul (.tmp 7) ?_ ?_ <;> rfl))
  try simp only [Act.put, List.setIfInBounds_toArray, List.set_cons_zero, List.set_cons_succ]
  refine wpAnyE_take (i := 10) (v := ?_) (some 29) rfl rfl (by kernel_rfl) (by kernel_rfl) (by kernel_rfl) (fun _ _ _ h => h) ?_ ?_
  rotate_left 1
  · (refine Or.inl ⟨by rfl, ?_⟩; intro w' hw'; have hq := below_via hcur hw'; have hq_e0 := Ext.trans e0 hw'; (try go_simp); (try rfl); done)
  try simp only [Act.put, List.setIfInBounds_toArray, List.set_cons_zero, List.set_cons_succ]
  refine wpAnyE_take (i := 11) (v := ?_) (some 30) rfl rfl (by kernel_rfl) (by kernel_rfl) (by kernel_rfl) (fun _ _ _ h => h) ?_ ?_
  rotate_left 1
  · (refine Or.inl ⟨by rfl, ?_⟩; intro w' hw'; have hq := below_via hcur hw'; have hq_e0 := Ext.trans e0 hw'; (try go_simp); (try rfl); done)
  try simp only [Act.put, List.setIfInBounds_toArray, List.set_cons_zero, List.set_cons_succ]
  refine wpAnyE_take (i := 12) (v := ?_) (some 31) rfl rfl (by kernel_rfl) (by kernel_rfl) (by kernel_rfl) (fun _ _ _ h => h) ?_ ?_
  rotate_left 1
  · (refine Or.inl ⟨by rfl, ?_⟩; intro w' hw'; have hq := below_via hcur hw'; have hq_e0 := Ext.trans e0 hw'; (try go_simp); (try rfl); done)
  try simp only [Act.put, List.setIfInBounds_toArray, List.set_cons_zero, List.set_cons_succ]
  refine wpAnyE_take (i := 13) (v := ?_) (some 32) rfl rfl (by kernel_rfl) (by kernel_rfl) (by kernel_rfl) (fun _ _ _ h => h) ?_ ?_
  rotate_left 1
  · (refine Or.inl ⟨by rfl, ?_⟩; intro w' hw'; have hq := below_via hcur hw'; have hq_e0 := Ext.trans e0 hw'; (try go_simp); (try rfl); done)
  try simp only [Act.put, List.setIfInBounds_toArray, List.set_cons_zero, List.set_cons_succ]
  refine wpAnyE_take (i := 14) (v := ?_) (some 33) rfl rfl (by kernel_rfl) (by kernel_rfl) (by kernel_rfl) (fun _ _ _ h => h) ?_ ?_
  rotate_left 1
  · (refine Or.inl ⟨by rfl, ?_⟩; intro w' hw'; have hq := below_via hcur hw'; have hq_e0 := Ext.trans e0 hw'; (try go_simp); (try rfl); done)
  try simp only [Act.put, List.setIfInBounds_toArray, List.set_cons_zero, List.set_cons_succ]
  refine wpAnyE_take (i := 15) (v := ?_) (some 34) rfl rfl (by kernel_rfl) (by kernel_rfl) (by kernel_rfl) (fun _ _ _ h => h) ?_ ?_
  rotate_left 1
  · (refine Or.inl ⟨by rfl, ?_⟩; intro w' hw'; have hq := below_via hcur hw'; have hq_e0 := Ext.trans e0 hw'; (try go_simp); (try rfl); done)
  try simp only [Act.put, List.setIfInBounds_toArray, List.set_cons_zero, List.set_cons_succ]
  refine wpAnyE_take (i := 16) (v := ?_) (some 35) rfl rfl (by kernel_rfl) (by kernel_rfl) (by kernel_rfl) (fun _ _ _ h => h) ?_ ?_
  rotate_left 1
  · (refine Or.inl ⟨by rfl, ?_⟩; intro w' hw'; have hq := below_via hcur hw'; have hq_e0 := Ext.trans e0 hw'; (try go_simp); (try rfl); done)
  try simp only [Act.put, List.setIfInBounds_toArray, List.set_cons_zero, List.set_cons_succ]
  refine wpAnyE_take (i := 17) (v := ?_) (some 36) rfl rfl (by kernel_rfl) (by kernel_rfl) (by kernel_rfl) (fun _ _ _ h => h) ?_ ?_
  rotate_left 1
  · (refine Or.inl ⟨by rfl, ?_⟩; intro w' hw'; have hq := below_via hcur hw'; have hq_e0 := Ext.trans e0 hw'; (try go_simp); (try rfl); done)
  try simp only [Act.put, List.setIfInBounds_toArray, List.set_cons_zero, List.set_cons_succ]
  refine wpAnyE_one (i := 18) rfl (by kernel_rfl) (by rfl) (fun K hK => ?_)
  go_simp
  (with_reducible refine (wakes_any _).mono ?_); rintro e w7 ⟨rfl, hb⟩
  refine hK.out _ _ hb ?_
  replace hcur := below_via hcur hb; clear hK K
  replace e0 := Ext.trans e0 hb
  try simp only [Act.put, List.setIfInBounds_toArray, List.set_cons_zero, List.set_cons_succ]
  refine wpAnyE_take (i := 19) (v := ?_) (some 38) rfl rfl (by kernel_rfl) (by kernel_rfl) (by kernel_rfl) (fun _ _ _ h => h) ?_ ?_
  rotate_left 1
  · (refine Or.inl ⟨by rfl, ?_⟩; intro w' hw'; have hq := below_via hcur hw'; have hq_e0 := Ext.trans e0 hw'; (try go_simp); (try rfl); done)
  try simp only [Act.put, List.setIfInBounds_toArray, List.set_cons_zero, List.set_cons_succ]
  refine wpAnyE_take (i := 20) (v := ?_) (some 4) rfl rfl (by kernel_rfl) (by kernel_rfl) (by kernel_rfl) (fun _ _ _ h => h) ?_ ?_
  rotate_left 1
  · (refine Or.inl ⟨by rfl, ?_⟩; intro w' hw'; have hq := below_via hcur hw'; have hq_e0 := Ext.trans e0 hw'; (try go_simp); (try rfl); done)
  try simp only [Act.put, List.setIfInBounds_toArray, List.set_cons_zero, List.set_cons_succ]
  refine wpAnyE_done (by kernel_rfl) ?_ _
  go_wp2_with fail
  go_ret
  exact ⟨rfl, hcur⟩

set_option maxRecDepth 10000 in
set_option maxHeartbeats 4000000 in
theorem law_SignBack (s : List UInt8) (v : Value) (b : List UInt8) (w : World) (hs : s.length = 64) (hv : SlB w v b) (hlb : b.length ≤ 1048576) :
    Calls Try.prog 4 #[dg s, v] w fun e w' => e = .returned (.bool true) ∧ Below w.heap.size w w' := by
  have hr0 : RowT 22 (w.alloc (.cells (bs s).toArray 22 (0, 0))) w.heap.size s := heap_alloc_new _ _
  have b0 := ext_alloc w (.cells (bs s).toArray 22 (0, 0))
  have hv0 := hv.below b0
  have qn := arr_sg.neqSelf s hs
  have qg := fun op x y w => arr_sg.guard op x y s s w
  change Calls _ _ #[.agg (bs s).toArray, _] _ _
  go_enter Try.func4, Try.ntmps4
  go_wp2_with (refine arr_sg.loadL hr0 (by rfl) hs _ rfl rfl ?_)
  refine (mark_any s hs _).mono ?_
  rintro e w1 ⟨v1, rfl, h1, b1⟩
  have r1 := hr0.below b1
  have hv1 := hv0.below b1
  have bw1 := Ext.trans b0 b1
  clear hr0 b0 b1 hv0 hv
  go_wp2_with fail
  have hun := unmark_any v1 _ _ h1.sl
  simp only [isMark_mark s hs, if_true, drop_mark] at hun
  refine hun.mono ?_
  rintro e w2 ⟨rfl, b2⟩
  have b3 := ext_alloc w2 (.cells (bs s).toArray 22 (0, 0))
  have r3 := (r1.below b2).below b3
  have x3 : RowT 22 (w2.alloc (.cells (bs s).toArray 22 (0, 0))) w2.heap.size s := heap_alloc_new _ _
  have hv3 := (hv1.below b2).below b3
  have bw3 := Ext.trans bw1 (Ext.trans b2 b3)
  clear hun h1 r1 hv1 bw1 b2 b3
  have hun := unmark_any v b _ hv3
  by_cases hm : isMark b = true
  · have hbl : (b.drop 4).length = 64 := by have := ((isMark_iff b).1 hm).1; simp; omega
    have hmd := mark_drop b hm
    simp only [hm, if_true] at hun
    go_wp2_with (first | (refine arr_sg.store_newL zer64_length rfl hs _ _ rfl rfl rfl ?_) | (refine arr_sg.loadL r3 (by rfl) hs _ rfl rfl ?_) | (refine arr_sg.loadL x3 (by rfl) hs _ rfl rfl ?_))
    refine hun.mono ?_
    generalize hd4 : b.drop 4 = u at hbl hmd
    rintro e w4 ⟨rfl, b4⟩
    have hv4 := hv3.below b4
    clear hun r3 x3 hv3
    go_wp2_with (refine arr_sg.store_newL zer64_length rfl hbl _ _ rfl rfl rfl ?_)
    have b5 := ext_alloc w4 (.cells (bs u).toArray 22 (0, 0))
    have y5 : RowT 22 (w4.alloc (.cells (bs u).toArray 22 (0, 0))) w4.heap.size u := heap_alloc_new _ _
    have hv5 := hv4.below b5
    have bw5 := Ext.trans bw3 (Ext.trans b4 b5)
    generalize w4.alloc (.cells (bs u).toArray 22 (0, 0)) = w5 at *
    have kb := fun (w' : World) (h : Ext w5 w') => conv_sl (P := Try.prog) (dst := 9) Try.underlying23 Try.underlying5 Try.underlying9 (hv5.below h)
    have hcur : Below w.heap.size w w5 := bw5
    have e0 := Ext.refl w5
    replace hd4 : Hid _ := hd4
    clear hv4 b4 b5 bw3
    refine wp_region_E (by kernel_rfl) ?_
    replace hcur := below_via hcur (ext_drew _)
    replace e0 := Ext.trans e0 (ext_drew _)
    refine wpAnyE_take (i := 0) (v := ?_) (some 39) rfl rfl (by kernel_rfl) (by kernel_rfl) (by kernel_rfl) (fun _ _ _ h => h) ?_ ?_
    rotate_left 1
    · (refine Or.inl ⟨by rfl, ?_⟩; intro w' hw'; have hq := below_via hcur hw'; have hq_e0 := Ext.trans e0 hw'; (refine ex_load arr_sg (y5.below hq_e0) hbl (.tmp 7) ?_ ?_ <;> rfl))
    try simp only [Act.put, List.setIfInBounds_toArray, List.set_cons_zero, List.set_cons_succ]
    refine wpAnyE_take (i := 3) (v := ?_) (some 42) rfl rfl (by kernel_rfl) (by kernel_rfl) (by kernel_rfl) (fun _ _ _ h => h) ?_ ?_
    rotate_left 1
    · (refine Or.inl ⟨by rfl, ?_⟩; intro w' hw'; have hq := below_via hcur hw'; have hq_e0 := Ext.trans e0 hw'; (try go_simp); (try rfl); done)
    try simp only [Act.put, List.setIfInBounds_toArray, List.set_cons_zero, List.set_cons_succ]
    refine wpAnyE_take (i := 4) (v := ?_) (some 43) rfl rfl (by kernel_rfl) (by kernel_rfl) (by kernel_rfl) (fun _ _ _ h => h) ?_ ?_
    rotate_left 1
    · (refine Or.inl ⟨by rfl, ?_⟩; intro w' hw'; have hq := below_via hcur hw'; have hq_e0 := Ext.trans e0 hw'; (try go_simp); (try rfl); done)
    try simp only [Act.put, List.setIfInBounds_toArray, List.set_cons_zero, List.set_cons_succ]
    refine wpAnyE_one (i := 1) rfl (by kernel_rfl) (by rfl) (fun K hK => ?_)
    go_simp
    have hmk := mark_any u hbl w5.drew; rw [hmd] at hmk; (with_reducible refine hmk.mono ?_); rintro e w6 ⟨v6, rfl, h6, hb⟩; clear hmk
    refine hK.out _ _ hb ?_
    replace hcur := below_via hcur hb; clear hK K
    replace e0 := Ext.trans e0 hb
    try simp only [Act.put, List.setIfInBounds_toArray, List.set_cons_zero, List.set_cons_succ]
    have k6 := fun (w' : World) (h : Ext w6 w') => conv_sl (P := Try.prog) (dst := 9) Try.underlying23 Try.underlying5 Try.underlying9 (h6.sl.below h)
    refine wpAnyE_take (i := 2) (v := ?_) (some 41) rfl rfl (by kernel_rfl) (by kernel_rfl) (by kernel_rfl) (fun _ _ _ h => h) ?_ ?_
    rotate_left 1
    · (refine Or.inl ⟨by rfl, ?_⟩; intro w' hw'; have hq := below_via hcur hw'; have hq_e0 := Ext.trans e0 hw'; (try go_simp); (try rfl); done)
    try simp only [Act.put, List.setIfInBounds_toArray, List.set_cons_zero, List.set_cons_succ]
    refine wpAnyE_take (i := 5) (v := ?_) (some 44) rfl rfl (by kernel_rfl) (by kernel_rfl) (by kernel_rfl) (fun _ _ _ h => h) ?_ ?_
    rotate_left 1
    · (refine Or.inl ⟨by rfl, ?_⟩; intro w' hw'; have hq := below_via hcur hw'; have hq_e0 := Ext.trans e0 hw'; (try go_simp); (try rfl); done)
    try simp only [Act.put, List.setIfInBounds_toArray, List.set_cons_zero, List.set_cons_succ]
    refine wpAnyE_take (i := 6) (v := ?_) (some 45) rfl rfl (by kernel_rfl) (by kernel_rfl) (by kernel_rfl) (fun _ _ _ h => h) ?_ ?_
    rotate_left 1
    · (refine Or.inl ⟨by rfl, ?_⟩; intro w' hw'; have hq := below_via hcur hw'; have hq_e0 := Ext.trans e0 hw'; (try go_simp); (try rfl); done)
    try simp only [Act.put, List.setIfInBounds_toArray, List.set_cons_zero, List.set_cons_succ]
    refine wpAnyE_one (i := 7) rfl (by kernel_rfl) (by rfl) (fun K hK => ?_)
    go_simp
    (with_reducible refine (wakes_any _).mono ?_); rintro e w7 ⟨rfl, hb⟩
    refine hK.out _ _ hb ?_
    replace hcur := below_via hcur hb; clear hK K
    replace e0 := Ext.trans e0 hb
    try simp only [Act.put, List.setIfInBounds_toArray, List.set_cons_zero, List.set_cons_succ]
    refine wpAnyE_take (i := 8) (v := ?_) (some 47) rfl rfl (by kernel_rfl) (by kernel_rfl) (by kernel_rfl) (fun _ _ _ h => h) ?_ ?_
    rotate_left 1
    · (refine Or.inl ⟨by rfl, ?_⟩; intro w' hw'; have hq := below_via hcur hw'; have hq_e0 := Ext.trans e0 hw'; (try go_simp); (try rfl); done)
    try simp only [Act.put, List.setIfInBounds_toArray, List.set_cons_zero, List.set_cons_succ]
    refine wpAnyE_take (i := 9) (v := ?_) (some 4) rfl rfl (by kernel_rfl) (by kernel_rfl) (by kernel_rfl) (fun _ _ _ h => h) ?_ ?_
    rotate_left 1
    · (refine Or.inl ⟨by rfl, ?_⟩; intro w' hw'; have hq := below_via hcur hw'; have hq_e0 := Ext.trans e0 hw'; (try go_simp); (try rfl); done)
    try simp only [Act.put, List.setIfInBounds_toArray, List.set_cons_zero, List.set_cons_succ]
    refine wpAnyE_done (by kernel_rfl) ?_ _
    go_wp2_with fail
    go_ret
    exact ⟨rfl, hcur⟩
  · rw [Bool.not_eq_true] at hm
    simp only [hm, Bool.false_eq_true, if_false] at hun
    go_wp2_with (first | (refine arr_sg.store_newL zer64_length rfl hs _ _ rfl rfl rfl ?_) | (refine arr_sg.loadL r3 (by rfl) hs _ rfl rfl ?_) | (refine arr_sg.loadL x3 (by rfl) hs _ rfl rfl ?_))
    refine hun.mono ?_
    rintro e w4 ⟨rfl, b4⟩
    have b5 := ext_alloc w4 (.cells (bs zer64).toArray 22 (0, 0))
    have y5 : RowT 22 (w4.alloc (.cells (bs zer64).toArray 22 (0, 0))) w4.heap.size zer64 := heap_alloc_new _ _
    have bw5 := Ext.trans bw3 (Ext.trans b4 b5)
    have qz : ∀ w', (binOp .eql 22 (dg zer64) (.agg #[.int .u8 0, .int .u8 0, .int .u8 0, .int .u8 0, .int .u8 0, .int .u8 0, .int .u8 0, .int .u8 0, .int .u8 0, .int .u8 0, .int .u8 0, .int .u8 0, .int .u8 0, .int .u8 0, .int .u8 0, .int .u8 0, .int .u8 0, .int .u8 0, .int .u8 0, .int .u8 0, .int .u8 0, .int .u8 0, .int .u8 0, .int .u8 0, .int .u8 0, .int .u8 0, .int .u8 0, .int .u8 0, .int .u8 0, .int .u8 0, .int .u8 0, .int .u8 0, .int .u8 0, .int .u8 0, .int .u8 0, .int .u8 0, .int .u8 0, .int .u8 0, .int .u8 0, .int .u8 0, .int .u8 0, .int .u8 0, .int .u8 0, .int .u8 0, .int .u8 0, .int .u8 0, .int .u8 0, .int .u8 0, .int .u8 0, .int .u8 0, .int .u8 0, .int .u8 0, .int .u8 0, .int .u8 0, .int .u8 0, .int .u8 0, .int .u8 0, .int .u8 0, .int .u8 0, .int .u8 0, .int .u8 0, .int .u8 0, .int .u8 0, .int .u8 0])).run Try.prog w' = .ok (.bool true) w' := fun w' => arr_sg.eqlSelf zer64 zer64_length w'
    have qz2 : ∀ x y w', (eqGuard .eql 22 x y (dg zer64) (.agg #[.int .u8 0, .int .u8 0, .int .u8 0, .int .u8 0, .int .u8 0, .int .u8 0, .int .u8 0, .int .u8 0, .int .u8 0, .int .u8 0, .int .u8 0, .int .u8 0, .int .u8 0, .int .u8 0, .int .u8 0, .int .u8 0, .int .u8 0, .int .u8 0, .int .u8 0, .int .u8 0, .int .u8 0, .int .u8 0, .int .u8 0, .int .u8 0, .int .u8 0, .int .u8 0, .int .u8 0, .int .u8 0, .int .u8 0, .int .u8 0, .int .u8 0, .int .u8 0, .int .u8 0, .int .u8 0, .int .u8 0, .int .u8 0, .int .u8 0, .int .u8 0, .int .u8 0, .int .u8 0, .int .u8 0, .int .u8 0, .int .u8 0, .int .u8 0, .int .u8 0, .int .u8 0, .int .u8 0, .int .u8 0, .int .u8 0, .int .u8 0, .int .u8 0, .int .u8 0, .int .u8 0, .int .u8 0, .int .u8 0, .int .u8 0, .int .u8 0, .int .u8 0, .int .u8 0, .int .u8 0, .int .u8 0, .int .u8 0, .int .u8 0, .int .u8 0])).run Try.prog w' = .ok () w' := fun x y w' => arr_sg.guard .eql x y zer64 zer64 w'
    clear hun r3 x3 hv3
    go_wp2_with (first | (refine arr_sg.store_newL zer64_length rfl zer64_length _ _ rfl rfl rfl ?_) | (refine arr_sg.loadL y5 (by rfl) zer64_length _ rfl rfl ?_))
    refine (wakes_any _).mono ?_
    rintro e w8 ⟨rfl, b8⟩
    go_wp2_with fail
    go_ret
    exact ⟨rfl, Ext.trans bw5 b8⟩
end Go.Proofs.Ytpdkonkgkjkkmaa
