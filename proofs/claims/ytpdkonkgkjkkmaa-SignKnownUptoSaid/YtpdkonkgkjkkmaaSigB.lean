/- The law of chapter 6 on signatures, walked. -/
import Derived.Test.YtpdkonkgkjkkmaaSigA
import Derived.Test.YtpdkonkgkjkkmaaSigT
import Derived.Test.YtpdkonkgkjkkmaaAt
set_option linter.unusedVariables false
set_option linter.unusedSimpArgs false
namespace Go.Proofs.Ytpdkonkgkjkkmaa
open Go.RowKit
attribute [local go_sem high] dg_cells

set_option maxRecDepth 10000 in
set_option maxHeartbeats 8000000 in
theorem law_SignSigns (vk : Value) (k : List UInt8) (vm : Value) (m s : List UInt8) (w : World) (hk : SlB w vk k) (hkl : k.length ≤ 1048576) (hm : SlB w vm m) (hml : m.length ≤ 1048576) (hs : s.length = 64) :
    Calls Try.prog 5 #[vk, vm, dg s] w fun e w' => e = .returned (.bool true) ∧ Below w.heap.size w w' := by
  have r0 : RowT 22 (w.alloc (.cells (bs s).toArray 22 (0, 0))) w.heap.size s := heap_alloc_new _ _
  have b0 := ext_alloc w (.cells (bs s).toArray 22 (0, 0))
  have hsign := fun v1 v2 w h1 h2 => sign_any v1 v2 k m w h1 h2 (by omega)
  have hrsign := fun v1 v2 w h1 h2 => rsign_any v1 v2 k m w h1 h2 (by omega)
  have hid := fun v1 w h1 => id_any v1 k w h1
  have hrid := fun v1 w h1 => rid_any v1 k w h1
  have hmay := fun v1 w h1 => may_any v1 k w h1
  have hrmay := fun v1 w h1 => rmay_any v1 k w h1
  have hver := fun v1 v2 w h1 h2 => verify_any v1 v2 k m s w h1 h2 (by omega) hs
  change Calls _ _ #[_, _, .agg (bs s).toArray] _ _
  by_cases hy : mayL k = true
  · simp only [hy, if_true, Bool.true_and] at hsign hrsign hid hrid hmay hrmay hver
    have htl := sigL_length k m
    have hdl : (idL k).length = 32 := sha_length _
    generalize sigL k m = t at *
    generalize idL k = dd at *
    have q1 := arr_sg.eqlSelf t htl
    have q2 := fun op x y w => arr_sg.guard op x y t t w
    have q3 := arr_sg.eql s t hs htl
    have q4 := fun op x y w => arr_sg.guard op x y s t w
    have q5 := arr_dg.eqlSelf dd hdl
    have q6 := fun op x y w => arr_dg.guard op x y dd dd w
    go_enter Try.func5, Try.ntmps5
    go_wp2_with (at_builtin; go_loud (refine wpl_cpB rfl _ _ rfl rfl rfl (hk.below b0) (by omega) ?_))
    intro v1 w1 h1 b1
    replace b1 : Ext (w.alloc (.cells (bs s).toArray 22 (0, 0))) w1 := by unfold Ext; rw [size_alloc]; exact b1
    have bw1 := Ext.trans b0 b1
    replace h1 := h1.sl
    go_wp2_with (at_builtin; go_loud (refine wpl_cpB rfl _ _ rfl rfl rfl (hm.below bw1) (by omega) ?_))
    intro v2 w2 h2 b2
    have bw2 := Ext.trans bw1 b2
    have r2 := (r0.below b1).below b2
    replace h2 := h2.sl
    replace h1 := h1.below b2
    have hk2 := hk.below bw2
    have hm2 := hm.below bw2
    clear b0 b1 bw1 b2 r0 hk hm
    go_wp2_with fail
    refine (hsign v1 v2 _ h1 h2).mono ?_
    rintro e w3 ⟨rfl, b3⟩
    have b4 := Ext.trans b3 (ext_alloc w3 (.cells (bs t).toArray 22 (0, 0)))
    have x4 : RowT 22 (w3.alloc (.cells (bs t).toArray 22 (0, 0))) w3.heap.size t := heap_alloc_new _ _
    replace r2 := r2.below b4
    replace h1 := h1.below b4
    replace h2 := h2.below b4
    replace hk2 := hk2.below b4
    replace hm2 := hm2.below b4
    have bw4 := Ext.trans bw2 b4
    clear b3 b4 bw2
    go_wp2_with (refine arr_sg.store_newL zer64_length rfl htl _ _ rfl rfl rfl ?_)
    generalize w3.alloc (.cells (bs t).toArray 22 (0, 0)) = w4 at *
    refine (hrsign _ _ _ hk2 hm2).mono ?_
    rintro e w5 ⟨rfl, b5⟩
    have b6 := Ext.trans b5 (ext_alloc w5 (.cells (bs t).toArray 22 (0, 0)))
    have x6 : RowT 22 (w5.alloc (.cells (bs t).toArray 22 (0, 0))) w5.heap.size t := heap_alloc_new _ _
    replace r2 := r2.below b6
    replace x4 := x4.below b6
    replace h1 := h1.below b6
    replace h2 := h2.below b6
    replace hk2 := hk2.below b6
    replace hm2 := hm2.below b6
    have bw6 := Ext.trans bw4 b6
    clear b5 b6 bw4
    go_wp2_with (refine arr_sg.store_newL zer64_length rfl htl _ _ rfl rfl rfl ?_)
    generalize w5.alloc (.cells (bs t).toArray 22 (0, 0)) = w6 at *
    refine (hid v1 _ h1).mono ?_
    rintro e w7 ⟨rfl, b7⟩
    have b8 := Ext.trans b7 (ext_alloc w7 (.cells (bs dd).toArray 35 (0, 0)))
    have x8 : RowT 35 (w7.alloc (.cells (bs dd).toArray 35 (0, 0))) w7.heap.size dd := heap_alloc_new _ _
    replace r2 := r2.below b8
    replace x4 := x4.below b8
    replace x6 := x6.below b8
    replace h1 := h1.below b8
    replace h2 := h2.below b8
    replace hk2 := hk2.below b8
    replace hm2 := hm2.below b8
    have bw8 := Ext.trans bw6 b8
    clear b7 b8 bw6
    go_wp2_with (refine arr_dg.store_newL zer_length rfl hdl _ _ rfl rfl rfl ?_)
    generalize w7.alloc (.cells (bs dd).toArray 35 (0, 0)) = w8 at *
    refine (hrid _ _ hk2).mono ?_
    rintro e w9 ⟨rfl, b9⟩
    have b10 := Ext.trans b9 (ext_alloc w9 (.cells (bs dd).toArray 35 (0, 0)))
    have x10 : RowT 35 (w9.alloc (.cells (bs dd).toArray 35 (0, 0))) w9.heap.size dd := heap_alloc_new _ _
    replace r2 := r2.below b10
    replace x4 := x4.below b10
    replace x6 := x6.below b10
    replace x8 := x8.below b10
    replace h1 := h1.below b10
    replace h2 := h2.below b10
    replace hk2 := hk2.below b10
    replace hm2 := hm2.below b10
    have bw10 := Ext.trans bw8 b10
    clear b9 b10 bw8
    obtain ⟨W, hW⟩ : ∃ W, w9.alloc (.cells (bs dd).toArray 35 (0, 0)) = W := ⟨_, rfl⟩
    rw [hW] at r2 x4 x6 x8 x10 h1 h2 hk2 hm2 bw10
    go_wp2_with (first | ((with_reducible refine at_store ?_); refine arr_dg.store_newL zer_length rfl hdl _ _ rfl rfl rfl ?_) | ((with_reducible refine at_load ?_); first | (refine arr_sg.loadL x4 (by rfl) htl _ rfl rfl ?_) | (refine arr_sg.loadL x6 (by rfl) htl _ rfl rfl ?_) | (refine arr_dg.loadL x8 (by rfl) hdl _ rfl rfl ?_) | (refine arr_dg.loadL x10 (by rfl) hdl _ rfl rfl ?_)))
    try rw [hW]
    refine (hmay v1 _ h1).mono ?_
    rintro e w11 ⟨rfl, rfl⟩
    go_wp2_with fail
    try rw [hW]
    refine (hrmay _ _ hk2).mono ?_
    rintro e w11 ⟨rfl, rfl⟩
    go_wp2_with ((with_reducible refine at_load ?_); refine arr_sg.loadL r2 (by rfl) hs _ rfl rfl ?_)
    try rw [hW]
    refine (hver v1 v2 _ h1 h2).mono ?_
    rintro e w12 ⟨rfl, b12⟩
    have k1 := conv_sl (P := Try.prog) (dst := 9) Try.underlying23 Try.underlying5 Try.underlying9 (h1.below b12)
    have k2 := conv_sl (P := Try.prog) (dst := 9) Try.underlying23 Try.underlying5 Try.underlying9 (h2.below b12)
    have k3 := conv_sl (P := Try.prog) (dst := 9) Try.underlying23 Try.underlying5 Try.underlying9 (hk2.below b12)
    have k4 := conv_sl (P := Try.prog) (dst := 9) Try.underlying23 Try.underlying5 Try.underlying9 (hm2.below b12)
    have r12 := r2.below b12
    have x12 := x6.below b12
    clear hW x4 x8 x10 h1 h2 hk2 hm2 hsign hrsign hid hrid hmay hrmay hver
    go_wp2_with ((with_reducible refine at_load ?_); first | (refine arr_sg.loadL r12 (by rfl) hs _ rfl rfl ?_) | (refine arr_sg.loadL x12 (by rfl) htl _ rfl rfl ?_))
    refine (wakes_any _).mono ?_
    rintro e w13 ⟨rfl, b13⟩
    go_wp2_with fail
    go_ret
    exact ⟨rfl, Ext.trans bw10 (Ext.trans b12 b13)⟩
  · rw [Bool.not_eq_true] at hy
    simp only [hy, Bool.false_eq_true, if_false, Bool.false_and] at hsign hrsign hid hrid hmay hrmay hver
    have q1 := arr_sg.eqlSelf zer64 zer64_length
    have q2 := fun op x y w => arr_sg.guard op x y zer64 zer64 w
    have q5 := arr_dg.eqlSelf zer zer_length
    have q6 := fun op x y w => arr_dg.guard op x y zer zer w
    go_enter Try.func5, Try.ntmps5
    go_wp2_with (at_builtin; go_loud (refine wpl_cpB rfl _ _ rfl rfl rfl (hk.below b0) (by omega) ?_))
    intro v1 w1 h1 b1
    replace b1 : Ext (w.alloc (.cells (bs s).toArray 22 (0, 0))) w1 := by unfold Ext; rw [size_alloc]; exact b1
    have bw1 := Ext.trans b0 b1
    replace h1 := h1.sl
    go_wp2_with (at_builtin; go_loud (refine wpl_cpB rfl _ _ rfl rfl rfl (hm.below bw1) (by omega) ?_))
    intro v2 w2 h2 b2
    have bw2 := Ext.trans bw1 b2
    have r2 := (r0.below b1).below b2
    replace h2 := h2.sl
    replace h1 := h1.below b2
    have hk2 := hk.below bw2
    have hm2 := hm.below bw2
    clear b0 b1 bw1 b2 r0 hk hm
    go_wp2_with fail
    refine (hsign v1 v2 _ h1 h2).mono ?_
    rintro e w3 ⟨rfl, b3⟩
    have b4 := Ext.trans b3 (ext_alloc w3 (.cells (bs zer64).toArray 22 (0, 0)))
    have x4 : RowT 22 (w3.alloc (.cells (bs zer64).toArray 22 (0, 0))) w3.heap.size zer64 := heap_alloc_new _ _
    replace r2 := r2.below b4
    replace h1 := h1.below b4
    replace h2 := h2.below b4
    replace hk2 := hk2.below b4
    replace hm2 := hm2.below b4
    have bw4 := Ext.trans bw2 b4
    clear b3 b4 bw2
    go_wp2_with (refine arr_sg.store_newL zer64_length rfl zer64_length _ _ rfl rfl rfl ?_)
    generalize w3.alloc (.cells (bs zer64).toArray 22 (0, 0)) = w4 at *
    refine (hrsign _ _ _ hk2 hm2).mono ?_
    rintro e w5 ⟨rfl, b5⟩
    have b6 := Ext.trans b5 (ext_alloc w5 (.cells (bs zer64).toArray 22 (0, 0)))
    have x6 : RowT 22 (w5.alloc (.cells (bs zer64).toArray 22 (0, 0))) w5.heap.size zer64 := heap_alloc_new _ _
    replace r2 := r2.below b6
    replace x4 := x4.below b6
    replace h1 := h1.below b6
    replace h2 := h2.below b6
    replace hk2 := hk2.below b6
    replace hm2 := hm2.below b6
    have bw6 := Ext.trans bw4 b6
    clear b5 b6 bw4
    go_wp2_with (refine arr_sg.store_newL zer64_length rfl zer64_length _ _ rfl rfl rfl ?_)
    generalize w5.alloc (.cells (bs zer64).toArray 22 (0, 0)) = w6 at *
    refine (hid v1 _ h1).mono ?_
    rintro e w7 ⟨rfl, b7⟩
    have b8 := Ext.trans b7 (ext_alloc w7 (.cells (bs zer).toArray 35 (0, 0)))
    have x8 : RowT 35 (w7.alloc (.cells (bs zer).toArray 35 (0, 0))) w7.heap.size zer := heap_alloc_new _ _
    replace r2 := r2.below b8
    replace x4 := x4.below b8
    replace x6 := x6.below b8
    replace h1 := h1.below b8
    replace h2 := h2.below b8
    replace hk2 := hk2.below b8
    replace hm2 := hm2.below b8
    have bw8 := Ext.trans bw6 b8
    clear b7 b8 bw6
    go_wp2_with (refine arr_dg.store_newL zer_length rfl zer_length _ _ rfl rfl rfl ?_)
    generalize w7.alloc (.cells (bs zer).toArray 35 (0, 0)) = w8 at *
    refine (hrid _ _ hk2).mono ?_
    rintro e w9 ⟨rfl, b9⟩
    have b10 := Ext.trans b9 (ext_alloc w9 (.cells (bs zer).toArray 35 (0, 0)))
    have x10 : RowT 35 (w9.alloc (.cells (bs zer).toArray 35 (0, 0))) w9.heap.size zer := heap_alloc_new _ _
    replace r2 := r2.below b10
    replace x4 := x4.below b10
    replace x6 := x6.below b10
    replace x8 := x8.below b10
    replace h1 := h1.below b10
    replace h2 := h2.below b10
    replace hk2 := hk2.below b10
    replace hm2 := hm2.below b10
    have bw10 := Ext.trans bw8 b10
    clear b9 b10 bw8
    obtain ⟨W, hW⟩ : ∃ W, w9.alloc (.cells (bs zer).toArray 35 (0, 0)) = W := ⟨_, rfl⟩
    rw [hW] at r2 x4 x6 x8 x10 h1 h2 hk2 hm2 bw10
    go_wp2_with (first | ((with_reducible refine at_store ?_); refine arr_dg.store_newL zer_length rfl zer_length _ _ rfl rfl rfl ?_) | ((with_reducible refine at_load ?_); first | (refine arr_sg.loadL x4 (by rfl) zer64_length _ rfl rfl ?_) | (refine arr_sg.loadL x6 (by rfl) zer64_length _ rfl rfl ?_) | (refine arr_dg.loadL x8 (by rfl) zer_length _ rfl rfl ?_) | (refine arr_dg.loadL x10 (by rfl) zer_length _ rfl rfl ?_)))
    try rw [hW]
    refine (hmay v1 _ h1).mono ?_
    rintro e w11 ⟨rfl, rfl⟩
    go_wp2_with fail
    try rw [hW]
    refine (hrmay _ _ hk2).mono ?_
    rintro e w11 ⟨rfl, rfl⟩
    go_wp2_with ((with_reducible refine at_load ?_); refine arr_sg.loadL r2 (by rfl) hs _ rfl rfl ?_)
    try rw [hW]
    refine (hver v1 v2 _ h1 h2).mono ?_
    rintro e w12 ⟨rfl, b12⟩
    have k1 := conv_sl (P := Try.prog) (dst := 9) Try.underlying23 Try.underlying5 Try.underlying9 (h1.below b12)
    have k2 := conv_sl (P := Try.prog) (dst := 9) Try.underlying23 Try.underlying5 Try.underlying9 (h2.below b12)
    have k3 := conv_sl (P := Try.prog) (dst := 9) Try.underlying23 Try.underlying5 Try.underlying9 (hk2.below b12)
    have k4 := conv_sl (P := Try.prog) (dst := 9) Try.underlying23 Try.underlying5 Try.underlying9 (hm2.below b12)
    have r12 := r2.below b12
    have x12 := x6.below b12
    clear hW x4 x8 x10 h1 h2 hk2 hm2 hsign hrsign hid hrid hmay hrmay hver
    go_wp2_with fail
    refine (wakes_any _).mono ?_
    rintro e w13 ⟨rfl, b13⟩
    go_wp2_with fail
    go_ret
    exact ⟨rfl, Ext.trans bw10 (Ext.trans b12 b13)⟩
end Go.Proofs.Ytpdkonkgkjkkmaa
