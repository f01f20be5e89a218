/- The law package's wakes of chapter 6; marks' laws (walks). -/
import Derived.Test.YtpdkonkgkjkkmaaSigS
import Derived.Test.YtpdkonkgkjkkmaaSigR
set_option linter.unusedVariables false
set_option linter.unusedSimpArgs false
namespace Go.Proofs.Ytpdkonkgkjkkmaa
open Go.RowKit

theorem conv_const (w : World) (C : Array Value) (n c g : Nat) (hg : g = w.heap.size) : (convert 23 23 (.slice (some ⟨g, 0, none⟩) n c)).run Try.prog (w.alloc (.cells C 5)) = .ok (.slice (some ⟨g, 0, none⟩) n c) (w.alloc (.cells C 5 (C.size, C.size + 1))) := by
  subst hg; exact Lib.run_convert_bytes_const w 23 5 C n c Try.underlying23 Try.underlying5
attribute [local go_sem high] rs_l rs_lh rs_lhm rs_h rs_hm rs_all dg_cells conv_const min_two min2_int

def sgM : List UInt8 := sigL [107] [109]
def sgN : List UInt8 := sigL [107] [110]
theorem sgM_length : sgM.length = 64 := sigL_length _ _
theorem sgN_length : sgN.length = 64 := sigL_length _ _
theorem sig_differ : (sgN == sigL [107] [109]) = false := by decide +kernel
theorem may1 : mayL [107] = true := by decide
theorem two_lits (w : World) (x y : UInt8) (t : TypeId) (f1 f2 : Nat × Nat) : SlB ((w.alloc (.cells #[.int .u8 (c8 x)] t f1)).alloc (.cells #[.int .u8 (c8 y)] t f2)) (.slice (some ⟨w.heap.size, 0, none⟩) 1 1) [x] ∧
    SlB ((w.alloc (.cells #[.int .u8 (c8 x)] t f1)).alloc (.cells #[.int .u8 (c8 y)] t f2)) (.slice (some ⟨w.heap.size + 1, 0, none⟩) 1 1) [y] ∧ Ext w ((w.alloc (.cells #[.int .u8 (c8 x)] t f1)).alloc (.cells #[.int .u8 (c8 y)] t f2)) := by
  refine ⟨(slB_one w x t f1).below (ext_alloc _ _), ?_, Ext.trans (ext_alloc _ _) (ext_alloc _ _)⟩
  have := slB_one (w.alloc (.cells #[.int .u8 (c8 x)] t f1)) y t f2
  rwa [size_alloc] at this
theorem sign_1 (vk vm : Value) (w : World) (hk : SlB w vk [107]) (hm : SlB w vm [109]) : Calls Try.prog 13 #[vk, vm] w fun e w' => e = .returned (.tuple #[dg sgM, .int .i64 0]) ∧ Below w.heap.size w w' := by
  have := sign_any vk vm [107] [109] w hk hm (by decide)
  simp only [may1, if_true] at this; exact this
theorem sign_2 (vk vm : Value) (w : World) (hk : SlB w vk [107]) (hm : SlB w vm [110]) : Calls Try.prog 13 #[vk, vm] w fun e w' => e = .returned (.tuple #[dg sgN, .int .i64 0]) ∧ Below w.heap.size w w' := by
  have := sign_any vk vm [107] [110] w hk hm (by decide)
  simp only [may1, if_true] at this; exact this
theorem sign_0 (vm : Value) (m : List UInt8) (w : World) (hm : SlB w vm m) (hml : m.length ≤ 1073741824) : Calls Try.prog 13 #[.slice none 0 0, vm] w fun e w' => e = .returned (.tuple #[dg zer64, .int .i64 1]) ∧ Below w.heap.size w w' := by
  have := sign_any (.slice none 0 0) vm [] m w (slB_nil _) hm hml
  simp only [show mayL [] = false from by decide, Bool.false_eq_true, if_false] at this; exact this
theorem ver_1 (vk vm : Value) (w : World) (hk : SlB w vk [107]) (hm : SlB w vm [109]) : Calls Try.prog 19 #[vk, vm, dg sgM] w fun e w' => e = .returned (.bool true) ∧ Below w.heap.size w w' := by
  have := verify_any vk vm [107] [109] sgM w hk hm (by decide) sgM_length
  simp only [may1, show (sgM == sigL [107] [109]) = true from by unfold sgM; simp, Bool.and_self] at this; exact this
theorem ver_2 (vk vm : Value) (w : World) (hk : SlB w vk [107]) (hm : SlB w vm [109]) : Calls Try.prog 19 #[vk, vm, dg sgN] w fun e w' => e = .returned (.bool false) ∧ Below w.heap.size w w' := by
  have := verify_any vk vm [107] [109] sgN w hk hm (by decide) sgN_length
  simp only [sig_differ, Bool.and_false] at this; exact this
theorem unmark_67 (v : Value) (w : World) (hv : SlB w v ((markL zer64).take 67)) : Calls Try.prog 8 #[v] w fun e w' => e = .returned (.tuple #[dg zer64, .int .i64 5]) ∧ Below w.heap.size w w' := by
  have := unmark_any v _ w hv
  simp only [show isMark ((markL zer64).take 67) = false from by decide, Bool.false_eq_true, if_false] at this; exact this

set_option maxRecDepth 10000 in
set_option maxHeartbeats 4000000 in
theorem wakes_any (w : World) : Calls Try.prog 12 #[] w fun e w' => e = .returned (.bool true) ∧ Below w.heap.size w w' := by
  go_enter Try.func12, Try.ntmps12
  go_wp2_with fail
  obtain ⟨k1, m1, b1⟩ := two_lits w 107 109 5 (1, 2) (1, 2)
  refine (sign_1 _ _ _ k1 m1).mono ?_
  rintro e w1 ⟨rfl, b2⟩
  have bw1 := Ext.trans b1 b2
  clear k1 m1 b1 b2
  go_wp2_with (refine arr_sg.store_newL zer64_length rfl sgM_length _ _ rfl rfl rfl ?_)
  obtain ⟨W1, hW1⟩ : ∃ W1, w1.alloc (.cells (bs sgM).toArray 22 (0, 0)) = W1 := ⟨_, rfl⟩
  have r1 : RowT 22 W1 w1.heap.size sgM := by rw [← hW1]; exact heap_alloc_new _ _
  have bw2 : Ext w W1 := Ext.trans bw1 (hW1 ▸ ext_alloc _ _)
  have z1 : W1.heap.size = w1.heap.size + 1 := by rw [← hW1, size_alloc]
  clear bw1
  obtain ⟨k1, m1, b1⟩ := two_lits W1 107 110 5 (1, 2) (1, 2)
  rw [z1] at k1 m1
  rw [hW1]
  refine (sign_2 _ _ _ k1 m1).mono ?_
  rintro e w2 ⟨rfl, b2⟩
  have b12 := Ext.trans b1 b2
  have r2 := r1.below b12
  have bw3 := Ext.trans bw2 b12
  clear k1 m1 b1 b2 b12 r1 bw2 hW1
  go_wp2_with (refine arr_sg.store_newL zer64_length rfl sgN_length _ _ rfl rfl rfl ?_)
  obtain ⟨W2, hW2⟩ : ∃ W2, w2.alloc (.cells (bs sgN).toArray 22 (0, 0)) = W2 := ⟨_, rfl⟩
  have b2 : Ext w2 W2 := hW2 ▸ ext_alloc _ _
  have q2 : RowT 22 W2 w2.heap.size sgN := by rw [← hW2]; exact heap_alloc_new _ _
  have r3 := r2.below b2
  have z2 : W2.heap.size = w2.heap.size + 1 := by rw [← hW2, size_alloc]
  have bw4 := Ext.trans bw3 b2
  have m2 := slB_lit W2 [109] 5 (1, 2) (by decide)
  have b3 := ext_alloc W2 (.cells (bs [109]).toArray 5 (1, 2))
  rw [z2] at m2
  rw [hW2]
  clear hW2 bw3 b2 r2
  refine (sign_0 _ [109] _ m2 (by decide)).mono ?_
  rintro e w3 ⟨rfl, b4⟩
  have b34 := Ext.trans b3 b4
  have r4 := r3.below b34
  have q4 := q2.below b34
  have bw5 := Ext.trans bw4 b34
  clear b3 b4 b34 r3 q2 bw4 m2
  go_wp2_with (refine arr_sg.store_newL zer64_length rfl zer64_length _ _ rfl rfl rfl ?_)
  have b5 := ext_alloc w3 (.cells (bs zer64).toArray 22 (0, 0))
  have r5 := r4.below b5
  have q5 := q4.below b5
  have bw6 := Ext.trans bw5 b5
  generalize w3.alloc (.cells (bs zer64).toArray 22 (0, 0)) = W3 at *
  clear b5 r4 q4 bw5
  refine (mark_any zer64 rfl _).mono ?_
  rintro e w4 ⟨vm, rfl, hm, b6⟩
  have r6 := r5.below b6
  have q6 := q5.below b6
  have bw7 := Ext.trans bw6 b6
  clear r5 q5 bw6 b6
  replace hm := hm.sl
  have hm0 := hm
  obtain ⟨A, c, rfl, hc, hcm, hA, hrr⟩ := hm
  have hml : (markL zer64).length = 68 := rfl
  have h67 := slB_slice hm0 0 67 (by omega) (by omega)
  have h5 := slB_slice hm0 0 5 (by omega) (by omega)
  simp only [List.drop_zero, Nat.sub_zero, slA_zero] at h67 h5
  rw [hml] at hc hm0 ⊢
  have g1 : (67 : Int) ≤ c := by omega
  have g2 : (5 : Int) ≤ c := by omega
  go_wp2_with fail
  refine (unmark_67 _ _ h67).mono ?_
  rintro e w5 ⟨rfl, b7⟩
  have b8 := ext_alloc w5 (.cells (bs zer64).toArray 22 (0, 0))
  have b78 := Ext.trans b7 b8
  have r7 := r6.below b78
  have q7 := q6.below b78
  have h57 := h5.below b78
  have bw8 := Ext.trans bw7 b78
  clear r6 q6 bw7 b7 b8 b78 h67 h5
  obtain ⟨W5, hW5⟩ : ∃ W5, w5.alloc (.cells (bs zer64).toArray 22 (0, 0)) = W5 := ⟨_, rfl⟩
  have z5 : W5.heap.size = w5.heap.size + 1 := by rw [← hW5, size_alloc]
  obtain ⟨k9, m9, b9⟩ := two_lits W5 107 109 5 (1, 2) (1, 2)
  rw [hW5] at r7 q7 h57 bw8
  have r9 := r7.below b9
  have q9 := q7.below b9
  have h59 := h57.below b9
  have bw9 := Ext.trans bw8 b9
  rw [z5] at k9 m9

  clear r7 q7 h57 bw8 b9
  go_wp2_with (first | (refine arr_sg.store_newL zer64_length rfl zer64_length _ _ rfl rfl rfl ?_) | (refine arr_sg.loadL r9 (by rfl) sgM_length _ rfl rfl ?_))
  refine (ver_1 _ _ _ k9 m9).mono ?_
  rintro e w10 ⟨rfl, b10⟩
  obtain ⟨k11, m11, b11⟩ := two_lits w10 107 109 5 (1, 2) (1, 2)
  have b1011 := Ext.trans b10 b11
  have q11 := q9.below b1011
  have h511 := h59.below b1011
  have bw11 := Ext.trans bw9 b1011
  clear r9 k9 m9 q9 h59 bw9 b10 b11 b1011
  go_wp2_with (refine arr_sg.loadL q11 (by rfl) sgN_length _ rfl rfl ?_)
  refine (ver_2 _ _ _ k11 m11).mono ?_
  rintro e w12 ⟨rfl, b12⟩
  have kd := conv_sl (P := Try.prog) (dst := 9) Try.underlying23 Try.underlying5 Try.underlying9 (h511.below b12)
  rw [show (markL zer64).take 5 = [8, 7, 0, 64, 0] from rfl] at kd
  go_wp2_with fail
  go_ret
  exact ⟨rfl, Ext.trans bw11 b12⟩
end Go.Proofs.Ytpdkonkgkjkkmaa
