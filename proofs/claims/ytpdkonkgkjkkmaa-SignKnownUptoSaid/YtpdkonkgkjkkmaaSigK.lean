/- The closed law of chapter 6, walked. -/
import Derived.Test.YtpdkonkgkjkkmaaSigB
set_option linter.unusedVariables false
set_option linter.unusedSimpArgs false
namespace Go.Proofs.Ytpdkonkgkjkkmaa
open Go.RowKit
attribute [local go_sem high] dg_cells conv_const

theorem two_litsL (w : World) (xs ys : List UInt8) (t : TypeId) (f1 f2 : Nat × Nat) (hx : xs.length ≤ 1099511627776) (hy : ys.length ≤ 1099511627776) :
    SlB ((w.alloc (.cells (bs xs).toArray t f1)).alloc (.cells (bs ys).toArray t f2)) (.slice (some ⟨w.heap.size, 0, none⟩) xs.length xs.length) xs ∧
    SlB ((w.alloc (.cells (bs xs).toArray t f1)).alloc (.cells (bs ys).toArray t f2)) (.slice (some ⟨w.heap.size + 1, 0, none⟩) ys.length ys.length) ys ∧ Ext w ((w.alloc (.cells (bs xs).toArray t f1)).alloc (.cells (bs ys).toArray t f2)) := by
  refine ⟨(slB_lit w xs t f1 hx).below (ext_alloc _ _), ?_, Ext.trans (ext_alloc _ _) (ext_alloc _ _)⟩
  have := slB_lit (w.alloc (.cells (bs xs).toArray t f1)) ys t f2 hy
  rwa [size_alloc] at this
def k64 : List UInt8 := List.replicate 64 0
def k65 : List UInt8 := List.replicate 65 0
def sgX : List UInt8 := sigL [97] [2, 98]
def sgY : List UInt8 := sigL [97, 1] [98]
def sg64 : List UInt8 := sigL k64 []
theorem sgX_length : sgX.length = 64 := sigL_length _ _
theorem sgY_length : sgY.length = 64 := sigL_length _ _
theorem sg64_length : sg64.length = 64 := sigL_length _ _
theorem sgXY : (sgX == sgY) = false := by decide +kernel
theorem signX (vk vm : Value) (w : World) (hk : SlB w vk [97]) (hm : SlB w vm [2, 98]) : Calls Try.prog 13 #[vk, vm] w fun e w' => e = .returned (.tuple #[dg sgX, .int .i64 0]) ∧ Below w.heap.size w w' := by
  have := sign_any vk vm [97] [2, 98] w hk hm (by decide)
  simp only [show mayL [97] = true from by decide, if_true] at this; exact this
theorem signY (vk vm : Value) (w : World) (hk : SlB w vk [97, 1]) (hm : SlB w vm [98]) : Calls Try.prog 13 #[vk, vm] w fun e w' => e = .returned (.tuple #[dg sgY, .int .i64 0]) ∧ Below w.heap.size w w' := by
  have := sign_any vk vm [97, 1] [98] w hk hm (by decide)
  simp only [show mayL [97, 1] = true from by decide, if_true] at this; exact this
theorem sign64 (vk : Value) (w : World) (hk : SlB w vk k64) : Calls Try.prog 13 #[vk, .slice none 0 0] w fun e w' => e = .returned (.tuple #[dg sg64, .int .i64 0]) ∧ Below w.heap.size w w' := by
  have := sign_any vk _ k64 [] w hk (slB_nil _) (by decide)
  simp only [show mayL k64 = true from by decide, if_true] at this; exact this
theorem sign65 (vk : Value) (w : World) (hk : SlB w vk k65) : Calls Try.prog 13 #[vk, .slice none 0 0] w fun e w' => e = .returned (.tuple #[dg zer64, .int .i64 1]) ∧ Below w.heap.size w w' := by
  have := sign_any vk _ k65 [] w hk (slB_nil _) (by decide)
  simp only [show mayL k65 = false from by decide, Bool.false_eq_true, if_false] at this; exact this
theorem id0 (w : World) : Calls Try.prog 15 #[.slice none 0 0] w fun e w' => e = .returned (.tuple #[dg zer, .int .i64 1]) ∧ Below w.heap.size w w' := by
  have := id_any (.slice none 0 0) [] w (slB_nil _)
  simp only [show mayL [] = false from by decide, Bool.false_eq_true, if_false] at this; exact this
theorem no_mark (s : List UInt8) : isMark ((markL s).set 1 6) = false := by
  unfold isMark markL hd4; simp
theorem unmark6 (v : Value) (s : List UInt8) (w : World) (hv : SlB w v ((markL s).set 1 6)) : Calls Try.prog 8 #[v] w fun e w' => e = .returned (.tuple #[dg zer64, .int .i64 5]) ∧ Below w.heap.size w w' := by
  have := unmark_any v _ w hv
  simp only [no_mark, Bool.false_eq_true, if_false] at this; exact this
theorem own_some {B n c : Nat} {w : World} {A : Option Addr} {xs : List UInt8} (h : OwB B w (.slice A n c) xs) (hn : 0 < xs.length) : ∃ g, A = some ⟨g, 0, none⟩ ∧ B ≤ g ∧ n = xs.length := by
  have h1 := h.sl
  obtain ⟨A', c', e, _⟩ := h1
  injection e with e1 e2 e3
  rcases h.2 with ⟨e, h0⟩ | ⟨g, cap, cur, e, hb, _⟩
  · injection e with _ e _; omega
  · injection e with e _ _; exact ⟨g, e, hb, e2⟩
theorem own_set {B n c g : Nat} {w : World} {xs : List UInt8} (h : OwB B w (.slice (some ⟨g, 0, none⟩) n c) xs) (hn : n = xs.length) (j : Nat) (y : UInt8) : OwB B (w.setCell ⟨g, j, none⟩ (.int .u8 (c8 y))) (.slice (some ⟨g, 0, none⟩) n c) (xs.set j y) := by
  subst hn
  have := (World.ownsRow.stored h j (.int .u8 (c8 y))).1
  unfold OwB
  rw [List.length_set]
  have e : bs (xs.set j y) = (bs xs).set j (.int .u8 (c8 y)) := by simp [bs, List.map_set]
  rw [e]; exact this

set_option maxRecDepth 10000 in
set_option maxHeartbeats 8000000 in
theorem law_SignKnown (w : World) : Calls Try.prog 6 #[] w fun e w' => e = .returned (.bool true) ∧ Below w.heap.size w w' := by
  have km := fun w => make_bytes w 64 (by decide) 64 rfl
  have km2 := fun w => make_bytes w 65 (by decide) 65 rfl
  go_enter Try.func6, Try.ntmps6
  go_wp2_with fail
  have b1 := ext_alloc w (.cells (bs k64).toArray 5 (0, 0))
  refine (sign64 _ _ (slB_lit w k64 5 (0, 0) (by decide))).mono ?_
  rintro e w1 ⟨rfl, b2⟩
  have bw1 := Ext.trans b1 (Ext.trans b2 (ext_alloc w1 (.cells (bs sg64).toArray 22 (0, 0))))
  clear b1 b2
  obtain ⟨w2, hw2⟩ : ∃ w2, w1.alloc (.cells (bs sg64).toArray 22 (0, 0)) = w2 := ⟨_, rfl⟩
  have z2 : w2.heap.size = w1.heap.size + 1 := by rw [← hw2, size_alloc]
  rw [hw2] at bw1
  go_wp2_with ((with_reducible refine at_store ?_); refine arr_sg.store_newL zer64_length rfl sg64_length _ _ rfl rfl rfl ?_)
  try rw [hw2]
  have b1 := ext_alloc w2 (.cells (bs k65).toArray 5 (0, 0))
  have s65 := slB_lit w2 k65 5 (0, 0) (by decide)
  rw [z2] at s65
  refine (sign65 _ _ s65).mono ?_
  rintro e w3 ⟨rfl, b2⟩
  have bw2 := Ext.trans bw1 (Ext.trans b1 (Ext.trans b2 (ext_alloc w3 (.cells (bs zer64).toArray 22 (0, 0)))))
  clear b1 b2 bw1 km km2 hw2 z2 s65
  go_wp2_with ((with_reducible refine at_store ?_); refine arr_sg.store_newL zer64_length rfl zer64_length _ _ rfl rfl rfl ?_)
  generalize w3.alloc (.cells (bs zer64).toArray 22 (0, 0)) = w4 at *
  refine (id0 _).mono ?_
  rintro e w5 ⟨rfl, b2⟩
  have bw3 := Ext.trans bw2 (Ext.trans b2 (ext_alloc w5 (.cells (bs zer).toArray 35 (0, 0))))
  have z5 := size_alloc w5 (.cells (bs zer).toArray 35 (0, 0))
  clear b2 bw2
  obtain ⟨w6, hw6⟩ : ∃ w6, w5.alloc (.cells (bs zer).toArray 35 (0, 0)) = w6 := ⟨_, rfl⟩
  rw [hw6] at bw3 z5
  go_wp2_with ((with_reducible refine at_store ?_); refine arr_dg.store_newL zer_length rfl zer_length _ _ rfl rfl rfl ?_)
  try rw [hw6]
  obtain ⟨k1, m1, b1⟩ := two_litsL w6 [97] [2, 98] 5 (1, 2) (2, 3) (by decide) (by decide)
  rw [z5] at k1 m1
  refine (signX _ _ _ k1 m1).mono ?_
  rintro e w7 ⟨rfl, b2⟩
  have bw4 := Ext.trans bw3 (Ext.trans b1 (Ext.trans b2 (ext_alloc w7 (.cells (bs sgX).toArray 22 (0, 0)))))
  have z7 := size_alloc w7 (.cells (bs sgX).toArray 22 (0, 0))
  have rX : RowT 22 (w7.alloc (.cells (bs sgX).toArray 22 (0, 0))) w7.heap.size sgX := heap_alloc_new _ _
  clear b1 b2 bw3 k1 m1 hw6 z5
  obtain ⟨w8, hw8⟩ : ∃ w8, w7.alloc (.cells (bs sgX).toArray 22 (0, 0)) = w8 := ⟨_, rfl⟩
  rw [hw8] at bw4 z7 rX
  go_wp2_with ((with_reducible refine at_store ?_); refine arr_sg.store_newL zer64_length rfl sgX_length _ _ rfl rfl rfl ?_)
  try rw [hw8]
  obtain ⟨k1, m1, b1⟩ := two_litsL w8 [97, 1] [98] 5 (2, 3) (1, 2) (by decide) (by decide)
  rw [z7] at k1 m1
  refine (signY _ _ _ k1 m1).mono ?_
  rintro e w9 ⟨rfl, b2⟩
  have bY := Ext.trans b1 (Ext.trans b2 (ext_alloc w9 (.cells (bs sgY).toArray 22 (0, 0))))
  have rY : RowT 22 (w9.alloc (.cells (bs sgY).toArray 22 (0, 0))) w9.heap.size sgY := heap_alloc_new _ _
  have rX2 := rX.below bY
  have bw5 := Ext.trans bw4 bY
  clear b1 b2 bw4 k1 m1 hw8 z7 bY rX
  obtain ⟨wA, hwA⟩ : ∃ wA, w9.alloc (.cells (bs sgY).toArray 22 (0, 0)) = wA := ⟨_, rfl⟩
  rw [hwA] at rY rX2 bw5
  go_wp2_with (first | ((with_reducible refine at_store ?_); refine arr_sg.store_newL zer64_length rfl sgY_length _ _ rfl rfl rfl ?_) | ((with_reducible refine at_load ?_); refine arr_sg.loadL rX2 (by rfl) sgX_length _ rfl rfl ?_))
  try rw [hwA]
  refine (mark_any sgX sgX_length _).mono ?_
  rintro e wB ⟨vm, rfl, hm, b2⟩
  have rX3 := rX2.below b2
  have rY3 := rY.below b2
  have bw6 := Ext.trans bw5 b2
  have zA := rY.lt
  have zA2 := rX2.lt
  have zB := b2.size
  have hml : (markL sgX).length = 68 := rfl
  obtain ⟨A, c, rfl, _, _, _, _⟩ := id hm.sl
  obtain ⟨g, rfl, hg, _⟩ := own_some hm (by rw [hml]; decide)
  have f1 := World.ownsRow.cellAt hm 1 (by rw [hml]; decide)
  have f2 := World.ownsRow.frozenAt hm 1
  have hset := own_set hm rfl 1 6
  have rX4 : RowT 22 (wB.setCell ⟨g, 1, none⟩ (.int .u8 (c8 6))) w7.heap.size sgX := (heap_setCell_other _ _ _ _ (show w7.heap.size ≠ g by omega)).trans rX3
  have rY4 : RowT 22 (wB.setCell ⟨g, 1, none⟩ (.int .u8 (c8 6))) w9.heap.size sgY := (heap_setCell_other _ _ _ _ (show w9.heap.size ≠ g by omega)).trans rY3
  have bw7 : Below w.heap.size w (wB.setCell ⟨g, 1, none⟩ (.int .u8 (c8 6))) := below_setCell bw6 (by have := bw5.size; omega) _
  try rw [hml] at hset
  try rw [hml]
  have f1' : wB.cell? ⟨g, 1, none⟩ = some (.int .u8 7) := f1
  clear hm f1 hwA bw6 bw5 rX3 rY3 b2 rX2 rY
  go_wp2_with fail
  refine (unmark6 _ sgX _ hset.sl).mono ?_
  rintro e wC ⟨rfl, b2⟩
  have bD := Ext.trans b2 (ext_alloc wC (.cells (bs zer64).toArray 22 (0, 0)))
  have rX5 := rX4.below bD
  have rY5 := rY4.below bD
  have bw8 := Below.trans bw7 (bD.mono bw7.size)
  clear hset rX4 rY4 bw7 b2 bD f1' f2
  obtain ⟨wD, hwD⟩ : ∃ wD, wC.alloc (.cells (bs zer64).toArray 22 (0, 0)) = wD := ⟨_, rfl⟩
  rw [hwD] at rX5 rY5 bw8
  have qn := arr_sg.neq sgX sgY sgX_length sgY_length
  simp only [sgXY, Bool.not_false] at qn
  have qg := fun op x y w => arr_sg.guard op x y sgX sgY w
  have zD : wD.heap.size = wC.heap.size + 1 := by rw [← hwD, size_alloc]
  go_wp2_with (first | ((with_reducible refine at_store ?_); refine arr_sg.store_newL zer64_length rfl zer64_length _ _ rfl rfl rfl ?_) | ((with_reducible refine at_load ?_); first | (refine arr_sg.loadL rX5 (by rfl) sgX_length _ rfl rfl ?_) | (refine arr_sg.loadL rY5 (by rfl) sgY_length _ rfl rfl ?_)))
  try rw [hwD]
  have s0 := slB_one wD 0 5 (0, 0)
  rw [zD] at s0
  have hmy := may_any _ [0] _ s0
  simp only [show mayL [0] = true from by decide] at hmy
  refine hmy.mono ?_
  rintro e wE ⟨rfl, rfl⟩
  have bE := ext_alloc wD (.cells #[.int .u8 (c8 0)] 5 (0, 0))
  clear hwD hmy s0 rX5 rY5 qn qg
  go_wp2_with fail
  have hmz := may_any (.slice none 0 0) [] (wD.alloc (.cells #[.int .u8 (c8 0)] 5 (0, 0))) (slB_nil _)
  simp only [show mayL [] = false from by decide] at hmz
  refine hmz.mono ?_
  rintro e wF ⟨rfl, rfl⟩
  clear hmz
  go_wp2_with fail
  refine (wakes_any _).mono ?_
  rintro e wG ⟨rfl, bG⟩
  go_wp2_with fail
  go_ret
  exact ⟨rfl, Ext.trans bw8 (Ext.trans bE bG)⟩
end Go.Proofs.Ytpdkonkgkjkkmaa
