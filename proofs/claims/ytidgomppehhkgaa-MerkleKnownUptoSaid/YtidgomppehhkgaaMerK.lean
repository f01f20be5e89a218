/- The law MerkleKnown (walk). -/
import Derived.Test.YtidgomppehhkgaaMerX
import Derived.Test.YtidgomppehhkgaaRh
set_option linter.unusedVariables false
set_option linter.unusedSimpArgs false
namespace Go.Proofs.Ytidgomppehhkgaa
open Go.RowKit
attribute [local go_sem high] dg_cells guard_dg rs_l rs_lh rs_lhm rs_h rs_hm rs_all

theorem rootL_4 (a b c d : List UInt8) : rootL [a, b, c, d] = nodeL (nodeL a b) (nodeL c d) := by
  rw [rootL_two (by simp) (by simp), show kOf [a, b, c, d].length = 2 from (by decide : kOf 4 = 2)]
  show nodeL (rootL [a, b]) (rootL [c, d]) = _
  rw [rootL_2, rootL_2]
theorem rootL_5 (a b c d e : List UInt8) : rootL [a, b, c, d, e] = nodeL (nodeL (nodeL a b) (nodeL c d)) e := by
  rw [rootL_two (by simp) (by simp), show kOf [a, b, c, d, e].length = 4 from (by decide : kOf 5 = 4)]
  show nodeL (rootL [a, b, c, d]) (rootL [e]) = _
  rw [rootL_4]; rfl
theorem rootL_6 (a b c d e f : List UInt8) : rootL [a, b, c, d, e, f] = nodeL (nodeL (nodeL a b) (nodeL c d)) (nodeL e f) := by
  rw [rootL_two (by simp) (by simp), show kOf [a, b, c, d, e, f].length = 4 from (by decide : kOf 6 = 4)]
  show nodeL (rootL [a, b, c, d]) (rootL [e, f]) = _
  rw [rootL_4, rootL_2]
theorem rootL_7 (a b c d e f g : List UInt8) : rootL [a, b, c, d, e, f, g] = nodeL (nodeL (nodeL a b) (nodeL c d)) (nodeL (nodeL e f) g) := by
  rw [rootL_two (by simp) (by simp), show kOf [a, b, c, d, e, f, g].length = 4 from (by decide : kOf 7 = 4)]
  show nodeL (rootL [a, b, c, d]) (rootL [e, f, g]) = _
  rw [rootL_4, rootL_3]
theorem leaf_nil_ne : (leafL [] == sha []) = false := by decide +kernel
def zs7 : List (List UInt8) := [[], [0], [16], [32, 33], [48, 49], [64, 65, 66, 67], [80, 81, 82, 83, 84, 85, 86, 87]]
def vs7 (B : Nat) : List Value := [.slice none 0 0, .slice (some ⟨B, 0, none⟩) 1 1, .slice (some ⟨B + 1, 0, none⟩) 1 1, .slice (some ⟨B + 1 + 1, 0, none⟩) 2 2, .slice (some ⟨B + 1 + 1 + 1, 0, none⟩) 2 2, .slice (some ⟨B + 1 + 1 + 1 + 1, 0, none⟩) 4 4, .slice (some ⟨B + 1 + 1 + 1 + 1 + 1, 0, none⟩) 8 8]
theorem lit_step {w W : World} {B : Nat} {xs : List UInt8} (t : TypeId) (hB : w.heap.size = B) (hx : xs.length ≤ 1099511627776) (hW : W = w.alloc (.cells (bs xs).toArray t (0, 0))) :
    SlB W (.slice (some ⟨B, 0, none⟩) xs.length xs.length) xs ∧ Ext w W ∧ W.heap.size = B + 1 := by
  subst hW; subst hB
  exact ⟨slB_lit w xs t (0, 0) hx, ext_alloc _ _, size_alloc _ _⟩
theorem lit7 {w w1 w2 w3 w4 w5 w6 W : World} (t t2 : TypeId) (h1 : w1 = w.alloc (.cells (bs [0]).toArray t (0, 0))) (h2 : w2 = w1.alloc (.cells (bs [16]).toArray t (0, 0))) (h3 : w3 = w2.alloc (.cells (bs [32, 33]).toArray t (0, 0)))
    (h4 : w4 = w3.alloc (.cells (bs [48, 49]).toArray t (0, 0))) (h5 : w5 = w4.alloc (.cells (bs [64, 65, 66, 67]).toArray t (0, 0))) (h6 : w6 = w5.alloc (.cells (bs [80, 81, 82, 83, 84, 85, 86, 87]).toArray t (0, 0)))
    (hW : W = w6.alloc (.cells (vs7 w.heap.size).toArray t2 (0, 0))) : SlX W (.slice (some ⟨w.heap.size + 1 + 1 + 1 + 1 + 1 + 1, 0, none⟩) 7 7) zs7 ∧ Ext w W := by
  obtain ⟨s1, e1, z1⟩ := lit_step t rfl (by decide) h1
  obtain ⟨s2, e2, z2⟩ := lit_step t z1 (by decide) h2
  obtain ⟨s3, e3, z3⟩ := lit_step t z2 (by decide) h3
  obtain ⟨s4, e4, z4⟩ := lit_step t z3 (by decide) h4
  obtain ⟨s5, e5, z5⟩ := lit_step t z4 (by decide) h5
  obtain ⟨s6, e6, z6⟩ := lit_step t z5 (by decide) h6
  have e7 : Ext w6 W := hW ▸ ext_alloc _ _
  have e57 := e6.trans e7
  have e47 := e5.trans e57
  have e37 := e4.trans e47
  have e27 := e3.trans e37
  have e17 := e2.trans e27
  refine ⟨⟨vs7 w.heap.size, ?_, rfl, ?_⟩, e1.trans e17⟩
  · have := sl_new w6 (vs7 w.heap.size) t2 7 rfl (by decide)
    rw [z6] at this
    rw [hW]; exact this
  · intro i u x hu hx
    match i, hu, hx with
    | 0, hu, hx => simp [vs7, zs7] at hu hx; subst hu; subst hx; exact slB_nil _
    | 1, hu, hx => simp [vs7, zs7] at hu hx; subst hu; subst hx; exact s1.below e17
    | 2, hu, hx => simp [vs7, zs7] at hu hx; subst hu; subst hx; exact s2.below e27
    | 3, hu, hx => simp [vs7, zs7] at hu hx; subst hu; subst hx; exact s3.below e37
    | 4, hu, hx => simp [vs7, zs7] at hu hx; subst hu; subst hx; exact s4.below e47
    | 5, hu, hx => simp [vs7, zs7] at hu hx; subst hu; subst hx; exact s5.below e57
    | 6, hu, hx => simp [vs7, zs7] at hu hx; subst hu; subst hx; exact s6.below e7
    | i + 7, hu, hx => simp [vs7] at hu
def ptr (B : Nat) : Value := .pointer (some ⟨B, 0, none⟩)
/-- Calls that have come up, and variables. -/
def Fk (v1 v2 v3 : Value) (c : Nat) (x y z : Option Nat) : Nat → Option Value := fun s =>
  if s = 4 then z.map ptr else if s = 3 then y.map ptr else if s = 2 then x.map ptr else if s = 45 then (if 3 ≤ c then some v3 else none) else if s = 38 then (if 2 ≤ c then some v2 else none) else if s = 31 then (if 1 ≤ c then some v1 else none) else none
def Lk (l0 : Array Bool) (c : Nat) (x y z : Option Nat) : Array Bool :=
  let l1 := if 1 ≤ c then l0.setIfInBounds 6 true else l0
  let l2 := if 2 ≤ c then l1.setIfInBounds 13 true else l1
  let l3 := if 3 ≤ c then l2.setIfInBounds 20 true else l2
  let l4 := if x.isSome then l3.setIfInBounds 21 true else l3
  let l5 := if y.isSome then l4.setIfInBounds 22 true else l4
  if z.isSome then l5.setIfInBounds 23 true else l5
def Rk (c : Nat) (x y z : Option Nat) : List Nat := (((if c = 0 then [6] else if c = 1 then [13] else if c = 2 then [20] else []) ++ (if x.isSome then [] else [21])) ++ (if y.isSome then [] else [22])) ++ (if z.isSome then [] else [23])
def rowOk (w1 w : World) (x : Option Nat) : Prop := ∀ B, x = some B → w1.heap.size ≤ B ∧ RowT 25 w B zer
theorem rowOk_none {w1 w : World} : rowOk w1 w none := fun B e => by cases e
theorem rowOk.below {w1 w w' : World} {x : Option Nat} (h : rowOk w1 w x) (hb : Below w.heap.size w w') : rowOk w1 w' x := fun B e => ⟨(h B e).1, (h B e).2.below hb⟩
def Jk (w1 : World) (v1 v2 v3 : Value) (a0 : Act) (l0 : Array Bool) (n : Nat) (l : Array Bool) (a : Act) (w : World) : Prop :=
  ∃ (c : Nat) (x y z : Option Nat), c ≤ 3 ∧ n + c + x.isSome.toNat + y.isSome.toNat + z.isSome.toNat = 6 ∧ l = Lk l0 c x y z ∧ a = ov (Fk v1 v2 v3 c x y z) a0 ∧ Below w1.heap.size w1 w ∧ rowOk w1 w x ∧ rowOk w1 w y ∧ rowOk w1 w z ∧
    (∀ B, x = some B → y ≠ some B) ∧ (∀ B, x = some B → z ≠ some B) ∧ (∀ B, y = some B → z ≠ some B)
theorem zeroD (w : World) : (zeroValue 25).run Try.prog w = .ok (.agg (bs zer).toArray) w :=
  (zero_of_info (P := Try.prog) (t := 25) (v := .agg (bs zer).toArray) (n := 32) (by kernel_rfl)).1 w
theorem rowOk_new {w1 w : World} (h : w1.heap.size ≤ w.heap.size) : rowOk w1 (w.alloc (.cells (bs zer).toArray 25 (0, 0))) (some w.heap.size) := fun B e => by
  cases e; exact ⟨h, heap_alloc_new _ _⟩
theorem rowOk.ne {w1 w : World} {x : Option Nat} (h : rowOk w1 w x) : x ≠ some w.heap.size := fun e => Nat.lt_irrefl _ (h _ e).2.lt
theorem Jk.init (w1 w : World) (v1 v2 v3 : Value) (a0 : Act) (l0 : Array Bool) (h : Below w1.heap.size w1 w) : Jk w1 v1 v2 v3 a0 l0 6 l0 a0 w := by
  refine ⟨0, none, none, none, by omega, rfl, rfl, ?_, h, rowOk_none, rowOk_none, rowOk_none, (fun B e => by cases e), (fun B e => by cases e), (fun B e => by cases e)⟩
  have : Fk v1 v2 v3 0 none none none = fun _ => none := by funext s; unfold Fk; repeat' split <;> simp_all
  rw [this, ov_put0]
theorem Fk_call (v1 v2 v3 : Value) (x y z : Option Nat) (a0 : Act) : ((ov (Fk v1 v2 v3 0 x y z) a0).put (some 31) v1 = ov (Fk v1 v2 v3 1 x y z) a0) ∧ ((ov (Fk v1 v2 v3 1 x y z) a0).put (some 38) v2 = ov (Fk v1 v2 v3 2 x y z) a0) ∧ ((ov (Fk v1 v2 v3 2 x y z) a0).put (some 45) v3 = ov (Fk v1 v2 v3 3 x y z) a0) := by
  refine ⟨?_, ?_, ?_⟩ <;> rw [ov_put] <;> congr 1 <;> funext s <;> unfold Fk <;> repeat' split <;> simp_all
theorem Fk_var (v1 v2 v3 : Value) (c B : Nat) (x y z : Option Nat) (a0 : Act) : ((ov (Fk v1 v2 v3 c none y z) a0).put (some 2) (ptr B) = ov (Fk v1 v2 v3 c (some B) y z) a0) ∧ ((ov (Fk v1 v2 v3 c x none z) a0).put (some 3) (ptr B) = ov (Fk v1 v2 v3 c x (some B) z) a0) ∧ ((ov (Fk v1 v2 v3 c x y none) a0).put (some 4) (ptr B) = ov (Fk v1 v2 v3 c x y (some B)) a0) := by
  refine ⟨?_, ?_, ?_⟩ <;> rw [ov_put] <;> congr 1 <;> funext s <;> unfold Fk <;> repeat' split <;> simp_all
theorem Fk_end (v1 v2 v3 : Value) (B C D : Nat) (a0 : Act) : ov (Fk v1 v2 v3 3 (some B) (some C) (some D)) a0 = (((((a0.put (some 31) v1).put (some 38) v2).put (some 45) v3).put (some 2) (ptr B)).put (some 3) (ptr C)).put (some 4) (ptr D) := by
  have e0 : a0 = ov (fun _ => none) a0 := (ov_put0 a0).symm
  conv => rhs; rw [e0, ov_put, ov_put, ov_put, ov_put, ov_put, ov_put]
  refine congrArg (fun f => ov f a0) ?_
  funext s; unfold Fk; repeat' split <;> simp_all
set_option maxRecDepth 10000 in
set_option maxHeartbeats 8000000 in
theorem law_MerkleKnown (w : World) : Calls Try.prog 7 #[] w fun e w' => e = .returned (.bool true) ∧ Below w.heap.size w w' := by
  obtain ⟨hsx, bx⟩ := lit7 (w := w) 5 41 rfl rfl rfl rfl rfl rfl rfl
  have hlv := leaves_any _ zs7 _ hsx (by decide) (by decide)
  have hne := leaf_nil_ne
  have l0 := leafL_length []; have l1 := leafL_length [0]; have l2 := leafL_length [16]; have l3 := leafL_length [32, 33]; have l4 := leafL_length [48, 49]; have l5 := leafL_length [64, 65, 66, 67]; have l6 := leafL_length [80, 81, 82, 83, 84, 85, 86, 87]
  rw [show zs7.map leafL = [leafL [], leafL [0], leafL [16], leafL [32, 33], leafL [48, 49], leafL [64, 65, 66, 67], leafL [80, 81, 82, 83, 84, 85, 86, 87]] from rfl] at hlv
  have cl0 := fun w' => leaf_any (.slice none 0 0) [] w' (slB_nil _) (by decide)
  generalize leafL [] = d0 at *
  generalize leafL [0] = d1 at *
  generalize leafL [16] = d2 at *
  generalize leafL [32, 33] = d3 at *
  generalize leafL [48, 49] = d4 at *
  generalize leafL [64, 65, 66, 67] = d5 at *
  generalize leafL [80, 81, 82, 83, 84, 85, 86, 87] = d6 at *
  go_enter Try.func7, Try.ntmps7
  go_wp2_with fail
  refine hlv.mono ?_
  rintro e w1 ⟨v1, rfl, ho1, b1⟩
  have bw1 := Ext.trans bx b1
  clear hsx hlv bx b1
  obtain ⟨g, c, rfl, hg1, hg2⟩ := ho1.some (by simp)
  have hl := ho1.sl
  have hd7 := ho1.2
  have g0 := fun w' (h : Ext w1 w') => (hl.below h).get (i := 0) (by simp)
  have g1 := fun w' (h : Ext w1 w') => (hl.below h).get (i := 1) (by simp)
  have g2 := fun w' (h : Ext w1 w') => (hl.below h).get (i := 2) (by simp)
  have g3 := fun w' (h : Ext w1 w') => (hl.below h).get (i := 3) (by simp)
  have g4 := fun w' (h : Ext w1 w') => (hl.below h).get (i := 4) (by simp)
  have g5 := fun w' (h : Ext w1 w') => (hl.below h).get (i := 5) (by simp)
  have g6 := fun w' (h : Ext w1 w') => (hl.below h).get (i := 6) (by simp)
  simp only [Option.some.injEq, exists_eq_left', Addr.add_lit, List.getD_cons_zero, List.getD_cons_succ] at g0 g1 g2 g3 g4 g5 g6
  clear ho1
  simp only [List.length_cons, List.length_nil]
  go_wp2_with fail
  have c01 := fun w' => node_any d0 d1 l0 l1 w'
  have c23 := fun w' => node_any d2 d3 l2 l3 w'
  have c45 := fun w' => node_any d4 d5 l4 l5 w'
  have la := nodeL_length d0 d1
  have lb := nodeL_length d2 d3
  have lc := nodeL_length d4 d5
  have hS : Below w1.heap.size w1 w1.drew := (Below.refl _ _).drew
  have r7 := rootL_7 d0 d1 d2 d3 d4 d5 d6
  have r6 := rootL_6 d0 d1 d2 d3 d4 d5
  have r5 := rootL_5 d0 d1 d2 d3 d4
  generalize nodeL d0 d1 = ab at *
  generalize nodeL d2 d3 = cd at *
  generalize nodeL d4 d5 = ef at *
  replace r7 : Hid _ := r7
  replace r6 : Hid _ := r6
  replace r5 : Hid _ := r5
  refine wp_region_S (fun w' => Below w1.heap.size w1 w') (by kernel_rfl) ?_
  refine wpAnyS_take (i := 0) (v := ?_) hS (some 25) rfl rfl (by kernel_rfl) (by kernel_rfl) (by kernel_rfl) (fun _ _ _ h => h) ?_ ?_
  rotate_left 1
  · (refine Or.inl ⟨by rfl, ?_⟩; intro w' hw'; (try go_simp); (try rfl); done)
  try simp only [Act.put, List.setIfInBounds_toArray, List.set_cons_zero, List.set_cons_succ]
  refine wpAnyS_take (i := 1) (v := ?_) hS (some 26) rfl rfl (by kernel_rfl) (by kernel_rfl) (by kernel_rfl) (fun _ _ _ h => h) ?_ ?_
  rotate_left 1
  · (refine Or.inl ⟨by rfl, ?_⟩; intro w' hw'; (try go_simp); (try rfl); done)
  try simp only [Act.put, List.setIfInBounds_toArray, List.set_cons_zero, List.set_cons_succ]
  refine wpAnyS_take (i := 2) (v := ?_) hS (some 27) rfl rfl (by kernel_rfl) (by kernel_rfl) (by kernel_rfl) (fun _ _ _ h => h) ?_ ?_
  rotate_left 1
  · (refine Or.inl ⟨by rfl, ?_⟩; intro w' hw'; (refine arr_dg.exAt (g0 _ hw') l0 (.tmp 26) ?_ ?_ <;> rfl))
  try simp only [Act.put, List.setIfInBounds_toArray, List.set_cons_zero, List.set_cons_succ]
  refine wpAnyS_take (i := 3) (v := ?_) hS (some 28) rfl rfl (by kernel_rfl) (by kernel_rfl) (by kernel_rfl) (fun _ _ _ h => h) ?_ ?_
  rotate_left 1
  · (refine Or.inl ⟨by rfl, ?_⟩; intro w' hw'; (try go_simp); (try rfl); done)
  try simp only [Act.put, List.setIfInBounds_toArray, List.set_cons_zero, List.set_cons_succ]
  refine wpAnyS_take (i := 4) (v := ?_) hS (some 29) rfl rfl (by kernel_rfl) (by kernel_rfl) (by kernel_rfl) (fun _ _ _ h => h) ?_ ?_
  rotate_left 1
  · (refine Or.inl ⟨by rfl, ?_⟩; intro w' hw'; (try go_simp); (try rfl); done)
  try simp only [Act.put, List.setIfInBounds_toArray, List.set_cons_zero, List.set_cons_succ]
  refine wpAnyS_take (i := 5) (v := ?_) hS (some 30) rfl rfl (by kernel_rfl) (by kernel_rfl) (by kernel_rfl) (fun _ _ _ h => h) ?_ ?_
  rotate_left 1
  · (refine Or.inl ⟨by rfl, ?_⟩; intro w' hw'; (refine arr_dg.exAt (g1 _ hw') l1 (.tmp 29) ?_ ?_ <;> rfl))
  try simp only [Act.put, List.setIfInBounds_toArray, List.set_cons_zero, List.set_cons_succ]
  refine wpAnyS_take (i := 7) (v := ?_) hS (some 32) rfl rfl (by kernel_rfl) (by kernel_rfl) (by kernel_rfl) (fun _ _ _ h => h) ?_ ?_
  rotate_left 1
  · (refine Or.inl ⟨by rfl, ?_⟩; intro w' hw'; (try go_simp); (try rfl); done)
  try simp only [Act.put, List.setIfInBounds_toArray, List.set_cons_zero, List.set_cons_succ]
  refine wpAnyS_take (i := 8) (v := ?_) hS (some 33) rfl rfl (by kernel_rfl) (by kernel_rfl) (by kernel_rfl) (fun _ _ _ h => h) ?_ ?_
  rotate_left 1
  · (refine Or.inl ⟨by rfl, ?_⟩; intro w' hw'; (try go_simp); (try rfl); done)
  try simp only [Act.put, List.setIfInBounds_toArray, List.set_cons_zero, List.set_cons_succ]
  refine wpAnyS_take (i := 9) (v := ?_) hS (some 34) rfl rfl (by kernel_rfl) (by kernel_rfl) (by kernel_rfl) (fun _ _ _ h => h) ?_ ?_
  rotate_left 1
  · (refine Or.inl ⟨by rfl, ?_⟩; intro w' hw'; (refine arr_dg.exAt (g2 _ hw') l2 (.tmp 33) ?_ ?_ <;> rfl))
  try simp only [Act.put, List.setIfInBounds_toArray, List.set_cons_zero, List.set_cons_succ]
  refine wpAnyS_take (i := 10) (v := ?_) hS (some 35) rfl rfl (by kernel_rfl) (by kernel_rfl) (by kernel_rfl) (fun _ _ _ h => h) ?_ ?_
  rotate_left 1
  · (refine Or.inl ⟨by rfl, ?_⟩; intro w' hw'; (try go_simp); (try rfl); done)
  try simp only [Act.put, List.setIfInBounds_toArray, List.set_cons_zero, List.set_cons_succ]
  refine wpAnyS_take (i := 11) (v := ?_) hS (some 36) rfl rfl (by kernel_rfl) (by kernel_rfl) (by kernel_rfl) (fun _ _ _ h => h) ?_ ?_
  rotate_left 1
  · (refine Or.inl ⟨by rfl, ?_⟩; intro w' hw'; (try go_simp); (try rfl); done)
  try simp only [Act.put, List.setIfInBounds_toArray, List.set_cons_zero, List.set_cons_succ]
  refine wpAnyS_take (i := 12) (v := ?_) hS (some 37) rfl rfl (by kernel_rfl) (by kernel_rfl) (by kernel_rfl) (fun _ _ _ h => h) ?_ ?_
  rotate_left 1
  · (refine Or.inl ⟨by rfl, ?_⟩; intro w' hw'; (refine arr_dg.exAt (g3 _ hw') l3 (.tmp 36) ?_ ?_ <;> rfl))
  try simp only [Act.put, List.setIfInBounds_toArray, List.set_cons_zero, List.set_cons_succ]
  refine wpAnyS_take (i := 14) (v := ?_) hS (some 39) rfl rfl (by kernel_rfl) (by kernel_rfl) (by kernel_rfl) (fun _ _ _ h => h) ?_ ?_
  rotate_left 1
  · (refine Or.inl ⟨by rfl, ?_⟩; intro w' hw'; (try go_simp); (try rfl); done)
  try simp only [Act.put, List.setIfInBounds_toArray, List.set_cons_zero, List.set_cons_succ]
  refine wpAnyS_take (i := 15) (v := ?_) hS (some 40) rfl rfl (by kernel_rfl) (by kernel_rfl) (by kernel_rfl) (fun _ _ _ h => h) ?_ ?_
  rotate_left 1
  · (refine Or.inl ⟨by rfl, ?_⟩; intro w' hw'; (try go_simp); (try rfl); done)
  try simp only [Act.put, List.setIfInBounds_toArray, List.set_cons_zero, List.set_cons_succ]
  refine wpAnyS_take (i := 16) (v := ?_) hS (some 41) rfl rfl (by kernel_rfl) (by kernel_rfl) (by kernel_rfl) (fun _ _ _ h => h) ?_ ?_
  rotate_left 1
  · (refine Or.inl ⟨by rfl, ?_⟩; intro w' hw'; (refine arr_dg.exAt (g4 _ hw') l4 (.tmp 40) ?_ ?_ <;> rfl))
  try simp only [Act.put, List.setIfInBounds_toArray, List.set_cons_zero, List.set_cons_succ]
  refine wpAnyS_take (i := 17) (v := ?_) hS (some 42) rfl rfl (by kernel_rfl) (by kernel_rfl) (by kernel_rfl) (fun _ _ _ h => h) ?_ ?_
  rotate_left 1
  · (refine Or.inl ⟨by rfl, ?_⟩; intro w' hw'; (try go_simp); (try rfl); done)
  try simp only [Act.put, List.setIfInBounds_toArray, List.set_cons_zero, List.set_cons_succ]
  refine wpAnyS_take (i := 18) (v := ?_) hS (some 43) rfl rfl (by kernel_rfl) (by kernel_rfl) (by kernel_rfl) (fun _ _ _ h => h) ?_ ?_
  rotate_left 1
  · (refine Or.inl ⟨by rfl, ?_⟩; intro w' hw'; (try go_simp); (try rfl); done)
  try simp only [Act.put, List.setIfInBounds_toArray, List.set_cons_zero, List.set_cons_succ]
  refine wpAnyS_take (i := 19) (v := ?_) hS (some 44) rfl rfl (by kernel_rfl) (by kernel_rfl) (by kernel_rfl) (fun _ _ _ h => h) ?_ ?_
  rotate_left 1
  · (refine Or.inl ⟨by rfl, ?_⟩; intro w' hw'; (refine arr_dg.exAt (g5 _ hw') l5 (.tmp 43) ?_ ?_ <;> rfl))
  try simp only [Act.put, List.setIfInBounds_toArray, List.set_cons_zero, List.set_cons_succ]
  refine wpAnyS_use (f0 := 3) (n0 := 6) (Jk w1 (dg ab) (dg cd) (dg ef)) (Jk.init _ _ _ _ _ _ _ hS) ?_ ?_
  · rintro n l a w' ⟨c, x, y, z, hc, hn, rfl, rfl, hb0, hx, hy, hz, dxy, dxz, dyz⟩
    refine ⟨Rk c x y z, ?_, ?_, ?_⟩
    · rcases (by omega : c = 0 ∨ c = 1 ∨ c = 2 ∨ c = 3) with rfl | rfl | rfl | rfl <;> cases x <;> cases y <;> cases z <;> first | (exfalso; simp at hn; done) | kernel_rfl
    · rcases (by omega : c = 0 ∨ c = 1 ∨ c = 2 ∨ c = 3) with rfl | rfl | rfl | rfl <;> cases x <;> cases y <;> cases z <;> first | (exfalso; simp at hn; done) | simp [Rk]
    · intro i hi
      unfold Rk at hi
      rcases List.mem_append.1 hi with hi | hi
      · rcases List.mem_append.1 hi with hi | hi
        · rcases List.mem_append.1 hi with hi | hi
          · by_cases c0 : c = 0
            · subst c0
              rw [if_pos rfl] at hi
              obtain rfl := List.mem_singleton.1 hi
              refine ⟨_, rfl, by rfl, fun K hK => ?_⟩
              refine wp_call2 _ _ 17 _ rfl (v1 := dg d0) (v2 := dg d1) (v := dg ab) ?_ ?_ ?_ (c01 _) fun w'' hb => hK.out _ _ (Below.trans hb0 (hb.mono hb0.size)) ⟨1, x, y, z, by omega, by omega, ?_, (Fk_call _ _ _ x y z _).1, Below.trans hb0 (hb.mono hb0.size), hx.below hb, hy.below hb, hz.below hb, dxy, dxz, dyz⟩
              · exact ov_eval _ _ _ rfl
              · exact ov_eval _ _ _ rfl
              · rfl
              · cases x <;> cases y <;> cases z <;> rfl
            · by_cases c1 : c = 1
              · subst c1
                rw [if_neg (by decide), if_pos rfl] at hi
                obtain rfl := List.mem_singleton.1 hi
                refine ⟨_, rfl, by rfl, fun K hK => ?_⟩
                refine wp_call2 _ _ 17 _ rfl (v1 := dg d2) (v2 := dg d3) (v := dg cd) ?_ ?_ ?_ (c23 _) fun w'' hb => hK.out _ _ (Below.trans hb0 (hb.mono hb0.size)) ⟨2, x, y, z, by omega, by omega, ?_, (Fk_call _ _ _ x y z _).2.1, Below.trans hb0 (hb.mono hb0.size), hx.below hb, hy.below hb, hz.below hb, dxy, dxz, dyz⟩
                · exact ov_eval _ _ _ rfl
                · exact ov_eval _ _ _ rfl
                · rfl
                · cases x <;> cases y <;> cases z <;> rfl
              · by_cases c2 : c = 2
                · subst c2
                  rw [if_neg (by decide), if_neg (by decide), if_pos rfl] at hi
                  obtain rfl := List.mem_singleton.1 hi
                  refine ⟨_, rfl, by rfl, fun K hK => ?_⟩
                  refine wp_call2 _ _ 17 _ rfl (v1 := dg d4) (v2 := dg d5) (v := dg ef) ?_ ?_ ?_ (c45 _) fun w'' hb => hK.out _ _ (Below.trans hb0 (hb.mono hb0.size)) ⟨3, x, y, z, by omega, by omega, ?_, (Fk_call _ _ _ x y z _).2.2, Below.trans hb0 (hb.mono hb0.size), hx.below hb, hy.below hb, hz.below hb, dxy, dxz, dyz⟩
                  · exact ov_eval _ _ _ rfl
                  · exact ov_eval _ _ _ rfl
                  · rfl
                  · cases x <;> cases y <;> cases z <;> rfl
                · rw [if_neg c0, if_neg c1, if_neg c2] at hi
                  cases hi
          · cases x with
            | some B => cases hi
            | none =>
              obtain rfl := List.mem_singleton.1 hi
              refine ⟨_, rfl, by rfl, fun K hK => ?_⟩
              have ea := ext_alloc w' (.cells (bs zer).toArray 25 (0, 0))
              refine wp_alloc_var 25 rfl _ (zeroD w') (hK.out _ _ (Below.trans hb0 (ea.mono hb0.size)) ⟨c, some w'.heap.size, y, z, hc, by simp at hn ⊢; omega, ?_, (Fk_var _ _ _ c _ none y z _).1, Below.trans hb0 (ea.mono hb0.size), rowOk_new hb0.size, hy.below ea, hz.below ea, (fun B e => by cases e; exact hy.ne), (fun B e => by cases e; exact hz.ne), dyz⟩)
              rcases (by omega : c = 0 ∨ c = 1 ∨ c = 2 ∨ c = 3) with rfl | rfl | rfl | rfl <;> cases y <;> cases z <;> rfl
        · cases y with
          | some B => cases hi
          | none =>
            obtain rfl := List.mem_singleton.1 hi
            refine ⟨_, rfl, by rfl, fun K hK => ?_⟩
            have ea := ext_alloc w' (.cells (bs zer).toArray 25 (0, 0))
            refine wp_alloc_var 25 rfl _ (zeroD w') (hK.out _ _ (Below.trans hb0 (ea.mono hb0.size)) ⟨c, x, some w'.heap.size, z, hc, by simp at hn ⊢; omega, ?_, (Fk_var _ _ _ c _ x none z _).2.1, Below.trans hb0 (ea.mono hb0.size), hx.below ea, rowOk_new hb0.size, hz.below ea, (fun B e h => by cases h; exact hx.ne e), dxz, (fun B e => by cases e; exact hz.ne)⟩)
            rcases (by omega : c = 0 ∨ c = 1 ∨ c = 2 ∨ c = 3) with rfl | rfl | rfl | rfl <;> cases x <;> cases z <;> rfl
      · cases z with
        | some B => cases hi
        | none =>
          obtain rfl := List.mem_singleton.1 hi
          refine ⟨_, rfl, by rfl, fun K hK => ?_⟩
          have ea := ext_alloc w' (.cells (bs zer).toArray 25 (0, 0))
          refine wp_alloc_var 25 rfl _ (zeroD w') (hK.out _ _ (Below.trans hb0 (ea.mono hb0.size)) ⟨c, x, y, some w'.heap.size, hc, by simp at hn ⊢; omega, ?_, (Fk_var _ _ _ c _ x y none _).2.2, Below.trans hb0 (ea.mono hb0.size), hx.below ea, hy.below ea, rowOk_new hb0.size, dxy, (fun B e h => by cases h; exact hx.ne e), (fun B e h => by cases h; exact hy.ne e)⟩)
          rcases (by omega : c = 0 ∨ c = 1 ∨ c = 2 ∨ c = 3) with rfl | rfl | rfl | rfl <;> cases x <;> cases y <;> rfl
  · rintro l a w' ⟨c, x, y, z, hc, hn, rfl, rfl, hb0, hx, hy, hz, dxy, dxz, dyz⟩
    obtain rfl : c = 3 := by
      cases x <;> cases y <;> cases z <;> simp at hn <;> omega
    cases x with
    | none => exfalso; cases y <;> cases z <;> simp at hn
    | some B =>
      cases y with
      | none => exfalso; cases z <;> simp at hn
      | some C =>
        cases z with
        | none => exfalso; simp at hn
        | some D =>
          rw [Fk_end]
          obtain ⟨zB, rB⟩ := hx B rfl
          obtain ⟨zC, rC⟩ := hy C rfl
          obtain ⟨zD, rD⟩ := hz D rfl
          have nBC : B ≠ C := fun e => dxy B rfl (by rw [e])
          have nBD : B ≠ D := fun e => dxz B rfl (by rw [e])
          have nCD : C ≠ D := fun e => dyz C rfl (by rw [e])
          clear hx hy hz dxy dxz dyz hn hc
          try simp only [Act.put, List.setIfInBounds_toArray, List.set_cons_zero, List.set_cons_succ, ptr]
          refine wpAnyS_one (i := 24) rfl (by kernel_rfl) (by rfl) (fun K hK => ?_)
          refine arr_dg.store rB zer_length la _ _ rfl rfl rfl ?_
          have rB1 := rB.setRow ab
          have rC1 := rC.other (D := B) (fun e => nBC e.symm) (bs ab).toArray
          have rD1 := rD.other (D := B) (fun e => nBD e.symm) (bs ab).toArray
          have hb1 := below_setRow hb0 zB (bs ab).toArray
          refine hK.out _ _ hb1 ?_
          clear hK K
          try simp only [Act.put, List.setIfInBounds_toArray, List.set_cons_zero, List.set_cons_succ]
          refine wpAnyS_one (i := 25) rfl (by kernel_rfl) (by rfl) (fun K hK => ?_)
          refine arr_dg.store rC1 zer_length lb _ _ rfl rfl rfl ?_
          have rB2 := rB1.other (D := C) nBC (bs cd).toArray
          have rC2 := rC1.setRow cd
          have rD2 := rD1.other (D := C) (fun e => nCD e.symm) (bs cd).toArray
          have hb2 := below_setRow hb1 zC (bs cd).toArray
          refine hK.out _ _ hb2 ?_
          clear hK K
          try simp only [Act.put, List.setIfInBounds_toArray, List.set_cons_zero, List.set_cons_succ]
          refine wpAnyS_one (i := 26) rfl (by kernel_rfl) (by rfl) (fun K hK => ?_)
          refine arr_dg.store rD2 zer_length lc _ _ rfl rfl rfl ?_
          have rB3 := rB2.other (D := D) nBD (bs ef).toArray
          have rC3 := rC2.other (D := D) nCD (bs ef).toArray
          have rD3 := rD2.setRow ef
          have hb3 := below_setRow hb2 zD (bs ef).toArray
          refine hK.out _ _ hb3 ?_
          clear hK K
          try simp only [Act.put, List.setIfInBounds_toArray, List.set_cons_zero, List.set_cons_succ]
          refine wpAnyS_done (by kernel_rfl) ?_ _
          generalize ((w'.setRow B (bs ab).toArray).setRow C (bs cd).toArray).setRow D (bs ef).toArray = W5 at *
          clear rB rC rD rB1 rC1 rD1 rB2 rC2 rD2 hb0 hb1 hb2 nBC nBD nCD zB zC zD hS c01 c23 c45
          have bw5 := Below.trans bw1 (hb3.mono bw1.size)
          have hl5 := hl.below hb3
          have cabcd := fun w' => node_any ab cd la lb w'
          have cefd := fun w' => node_any ef d6 lc l6 w'
          have labcd := nodeL_length ab cd
          have lefd := nodeL_length ef d6
          generalize nodeL ab cd = abcd at *
          generalize nodeL ef d6 = efd at *
          have call7 := fun w' => node_any abcd efd labcd lefd w'
          have call5 := fun w' => node_any abcd d4 labcd l4 w'
          have call6 := fun w' => node_any abcd ef labcd lc w'
          have q7 := neq_dg_self (nodeL abcd efd) (nodeL_length _ _)
          have q5 := neq_dg_self (nodeL abcd d4) (nodeL_length _ _)
          have q6 := neq_dg_self (nodeL abcd ef) (nodeL_length _ _)
          have k7 := eql_dg_self (nodeL abcd efd) (nodeL_length _ _)
          have cr7 := fun w' h => root_any 7 (.slice (some ⟨g, 0, none⟩) 7 c) [d0, d1, d2, d3, d4, d5, d6] w' (by simp) (by decide) h
          have cr5 := fun w' h => root_any 5 (.slice (some ⟨g, 0, none⟩) 5 c) [d0, d1, d2, d3, d4] w' (by simp) (by decide) h
          have cr6 := fun w' h => root_any 6 (.slice (some ⟨g, 0, none⟩) 6 c) [d0, d1, d2, d3, d4, d5] w' (by simp) (by decide) h
          rw [r7.out] at cr7
          rw [r6.out] at cr6
          rw [r5.out] at cr5
          have cs1 := fun w' h => sub_any (.slice (some ⟨g, 0, none⟩) 7 c) [d0, d1, d2, d3, d4, d5, d6] (-1) 2 w' (by simp) h
          have cs2 := fun w' h => sub_any (.slice (some ⟨g, 0, none⟩) 7 c) [d0, d1, d2, d3, d4, d5, d6] 0 8 w' (by simp) h
          have cs3 := fun w' => sub_any (.slice none 0 0) [] 0 0 w' (by simp) (slD_nil w')
          have cs4 := fun w' h => sub_any (.slice (some ⟨g, 0, none⟩) 7 c) [d0, d1, d2, d3, d4, d5, d6] 0 7 w' (by simp) h
          rw [show subL [d0, d1, d2, d3, d4, d5, d6] (-1) 2 = zer from rfl, show subE [d0, d1, d2, d3, d4, d5, d6] (-1) 2 = 1 from rfl] at cs1
          rw [show subL [d0, d1, d2, d3, d4, d5, d6] 0 8 = zer from rfl, show subE [d0, d1, d2, d3, d4, d5, d6] 0 8 = 1 from rfl] at cs2
          rw [show subL [] 0 0 = zer from rfl, show subE [] 0 0 = 1 from rfl] at cs3
          rw [show subL [d0, d1, d2, d3, d4, d5, d6] 0 7 = rootL [d0, d1, d2, d3, d4, d5, d6] from rfl, r7.out, show subE [d0, d1, d2, d3, d4, d5, d6] 0 7 = 0 from rfl] at cs4
          have l7 := nodeL_length abcd efd
          have l75 := nodeL_length abcd d4
          have l76 := nodeL_length abcd ef
          have hS5 := hl5.slice 0 5 (by omega) (by simp)
          have hS6 := hl5.slice 0 6 (by omega) (by simp)
          rw [slA_zero] at hS5 hS6
          simp only [List.drop_zero, Nat.sub_zero, List.take_succ_cons, List.take_zero] at hS5 hS6
          have hS7 : SlD W5 (.slice (some ⟨g, 0, none⟩) 7 c) [d0, d1, d2, d3, d4, d5, d6] := hl5
          have h4 : ∀ w', Ext W5 w' → RdB w' (some ⟨g, 4 * 32, none⟩) d4 := fun w' h => by
            obtain ⟨_, e, hh⟩ := (hl5.below h).get (i := 4) (by simp)
            cases e; rw [Addr.add_lit, Nat.zero_add] at hh; exact hh
          have h6 : ∀ w', Ext W5 w' → RdB w' (some ⟨g, 6 * 32, none⟩) d6 := fun w' h => by
            obtain ⟨_, e, hh⟩ := (hl5.below h).get (i := 6) (by simp)
            cases e; rw [Addr.add_lit, Nat.zero_add] at hh; exact hh
          generalize nodeL abcd efd = n7 at *
          generalize nodeL abcd d4 = n5 at *
          generalize nodeL abcd ef = n6 at *
          clear hl5 hl g0 g1 g2 g3 g4 g5 g6 r7 r6 r5
          have hcc : (7 : Nat) ≤ c := by
            obtain ⟨⟨A', c', e, h, _⟩, _⟩ := hS7
            injection e with _ _ e3
            subst e3; simpa using h
          go_wp2_with ((with_reducible refine at_load ?_); first | refine arr_dg.loadL rB3 (by rfl) la _ rfl rfl ?_ | refine arr_dg.loadL rC3 (by rfl) lb _ rfl rfl ?_)
          refine (cabcd _).mono ?_; rintro e w6 ⟨rfl, b6⟩
          have e6 := ext_alloc w6 (.cells (bs abcd).toArray 25 (0, 0))
          have rA6 : RowT 25 (w6.alloc (.cells (bs abcd).toArray 25 (0, 0))) w6.heap.size abcd := heap_alloc_new _ _
          have x6 : Ext W5 _ := Ext.trans b6 e6
          have bw6 := Below.trans bw5 (x6.mono bw5.size)
          have rD6 := rD3.below x6
          go_wp2_with ((with_reducible refine at_store ?_); refine arr_dg.store_newL zer_length rfl labcd _ _ rfl rfl rfl ?_)
          generalize hX : w6.heap.size = X at *
          generalize hW6 : w6.alloc (.cells (bs abcd).toArray 25 (0, 0)) = W6 at *
          clear hX hW6 b6 e6 rB3 rC3 rD3 cabcd bw5
          have hcur : Below w.heap.size w W6 := bw6
          have e0 := x6
          have eX := Ext.refl W6
          have sd7 := fun w' (h : Ext W5 w') => hS7.below h
          have sd5 := fun w' (h : Ext W5 w') => hS5.below h
          have sd6 := fun w' (h : Ext W5 w') => hS6.below h
          have cI5 : (5 : Int) ≤ c := by omega
          have cI6 : (6 : Int) ≤ c := by omega
          refine wp_region_E (by kernel_rfl) ?_
          replace hcur := below_via hcur (ext_drew _)
          replace e0 := Ext.trans e0 (ext_drew _)
          replace eX := Ext.trans eX (ext_drew _)
          refine wpAnyE_take (i := 0) (v := ?_) (some 49) rfl rfl (by kernel_rfl) (by kernel_rfl) (by kernel_rfl) (fun _ _ _ h => h) ?_ ?_
          rotate_left 1
          · (refine Or.inl ⟨by rfl, ?_⟩; intro w' hw'; have hq := below_via hcur hw'; have hq_e0 := Ext.trans e0 hw'; have hq_eX := Ext.trans eX hw'; (try go_simp); (try rfl); done)
          try simp only [Act.put, List.setIfInBounds_toArray, List.set_cons_zero, List.set_cons_succ]
          refine wpAnyE_take (i := 2) (v := ?_) (some 51) rfl rfl (by kernel_rfl) (by kernel_rfl) (by kernel_rfl) (fun _ _ _ h => h) ?_ ?_
          rotate_left 1
          · (refine Or.inl ⟨by rfl, ?_⟩; intro w' hw'; have hq := below_via hcur hw'; have hq_e0 := Ext.trans e0 hw'; have hq_eX := Ext.trans eX hw'; (refine arr_dg.ex (rA6.below hq_eX) labcd (.tmp 5) ?_ ?_ <;> rfl))
          try simp only [Act.put, List.setIfInBounds_toArray, List.set_cons_zero, List.set_cons_succ]
          refine wpAnyE_take (i := 3) (v := ?_) (some 52) rfl rfl (by kernel_rfl) (by kernel_rfl) (by kernel_rfl) (fun _ _ _ h => h) ?_ ?_
          rotate_left 1
          · (refine Or.inl ⟨by rfl, ?_⟩; intro w' hw'; have hq := below_via hcur hw'; have hq_e0 := Ext.trans e0 hw'; have hq_eX := Ext.trans eX hw'; (refine arr_dg.ex (rD6.below hq_eX) lc (.tmp 4) ?_ ?_ <;> rfl))
          try simp only [Act.put, List.setIfInBounds_toArray, List.set_cons_zero, List.set_cons_succ]
          refine wpAnyE_take (i := 4) (v := ?_) (some 53) rfl rfl (by kernel_rfl) (by kernel_rfl) (by kernel_rfl) (fun _ _ _ h => h) ?_ ?_
          rotate_left 1
          · (refine Or.inl ⟨by rfl, ?_⟩; intro w' hw'; have hq := below_via hcur hw'; have hq_e0 := Ext.trans e0 hw'; have hq_eX := Ext.trans eX hw'; (try go_simp); (try rfl); done)
          try simp only [Act.put, List.setIfInBounds_toArray, List.set_cons_zero, List.set_cons_succ]
          refine wpAnyE_take (i := 5) (v := ?_) (some 54) rfl rfl (by kernel_rfl) (by kernel_rfl) (by kernel_rfl) (fun _ _ _ h => h) ?_ ?_
          rotate_left 1
          · (refine Or.inl ⟨by rfl, ?_⟩; intro w' hw'; have hq := below_via hcur hw'; have hq_e0 := Ext.trans e0 hw'; have hq_eX := Ext.trans eX hw'; (try go_simp); (try rfl); done)
          try simp only [Act.put, List.setIfInBounds_toArray, List.set_cons_zero, List.set_cons_succ]
          refine wpAnyE_take (i := 6) (v := ?_) (some 55) rfl rfl (by kernel_rfl) (by kernel_rfl) (by kernel_rfl) (fun _ _ _ h => h) ?_ ?_
          rotate_left 1
          · (refine Or.inl ⟨by rfl, ?_⟩; intro w' hw'; have hq := below_via hcur hw'; have hq_e0 := Ext.trans e0 hw'; have hq_eX := Ext.trans eX hw'; (refine arr_dg.exAt (h6 _ hq_e0) l6 (.tmp 54) ?_ ?_ <;> rfl))
          try simp only [Act.put, List.setIfInBounds_toArray, List.set_cons_zero, List.set_cons_succ]
          refine wpAnyE_one (i := 1) rfl (by kernel_rfl) (by rfl) (fun K hK => ?_)
          go_simp
          (with_reducible refine (cr7 _ (sd7 _ e0)).mono ?_); rintro e w7 ⟨rfl, hb⟩
          refine hK.out _ _ hb ?_
          replace hcur := below_via hcur hb; clear hK K
          replace e0 := Ext.trans e0 hb
          replace eX := Ext.trans eX hb
          try simp only [Act.put, List.setIfInBounds_toArray, List.set_cons_zero, List.set_cons_succ]
          refine wpAnyE_one (i := 7) rfl (by kernel_rfl) (by rfl) (fun K hK => ?_)
          go_simp
          (with_reducible refine (cefd _).mono ?_); rintro e w7 ⟨rfl, hb⟩
          refine hK.out _ _ hb ?_
          replace hcur := below_via hcur hb; clear hK K
          replace e0 := Ext.trans e0 hb
          replace eX := Ext.trans eX hb
          try simp only [Act.put, List.setIfInBounds_toArray, List.set_cons_zero, List.set_cons_succ]
          refine wpAnyE_one (i := 8) rfl (by kernel_rfl) (by rfl) (fun K hK => ?_)
          go_simp
          (with_reducible refine (call7 _).mono ?_); rintro e w7 ⟨rfl, hb⟩
          refine hK.out _ _ hb ?_
          replace hcur := below_via hcur hb; clear hK K
          replace e0 := Ext.trans e0 hb
          replace eX := Ext.trans eX hb
          try simp only [Act.put, List.setIfInBounds_toArray, List.set_cons_zero, List.set_cons_succ]
          refine wpAnyE_take (i := 9) (v := ?_) (some 58) rfl rfl (by kernel_rfl) (by kernel_rfl) (by kernel_rfl) (fun _ _ _ h => h) ?_ ?_
          rotate_left 1
          · (refine Or.inl ⟨by rfl, ?_⟩; intro w' hw'; have hq := below_via hcur hw'; have hq_e0 := Ext.trans e0 hw'; have hq_eX := Ext.trans eX hw'; (try go_simp); (try rfl); done)
          try simp only [Act.put, List.setIfInBounds_toArray, List.set_cons_zero, List.set_cons_succ]
          refine wpAnyE_take (i := 10) (v := ?_) (some 59) rfl rfl (by kernel_rfl) (by kernel_rfl) (by kernel_rfl) (fun _ _ _ h => h) ?_ ?_
          rotate_left 1
          · (refine Or.inl ⟨by rfl, ?_⟩; intro w' hw'; have hq := below_via hcur hw'; have hq_e0 := Ext.trans e0 hw'; have hq_eX := Ext.trans eX hw'; (try go_simp); (try rfl); done)
          try simp only [Act.put, List.setIfInBounds_toArray, List.set_cons_zero, List.set_cons_succ]
          refine wpAnyE_take (i := 11) (v := ?_) (some 60) rfl rfl (by kernel_rfl) (by kernel_rfl) (by kernel_rfl) (fun _ _ _ h => h) ?_ ?_
          rotate_left 1
          · (refine Or.inl ⟨by rfl, ?_⟩; intro w' hw'; have hq := below_via hcur hw'; have hq_e0 := Ext.trans e0 hw'; have hq_eX := Ext.trans eX hw'; (try go_simp); (try rfl); done)
          try simp only [Act.put, List.setIfInBounds_toArray, List.set_cons_zero, List.set_cons_succ]
          refine wpAnyE_take (i := 12) (v := ?_) (some 61) rfl rfl (by kernel_rfl) (by kernel_rfl) (by kernel_rfl) (fun _ _ _ h => h) ?_ ?_
          rotate_left 1
          · (refine Or.inl ⟨by rfl, ?_⟩; intro w' hw'; have hq := below_via hcur hw'; have hq_e0 := Ext.trans e0 hw'; have hq_eX := Ext.trans eX hw'; (try go_simp); (try rfl); done)
          try simp only [Act.put, List.setIfInBounds_toArray, List.set_cons_zero, List.set_cons_succ]
          refine wpAnyE_take (i := 14) (v := ?_) (some 63) rfl rfl (by kernel_rfl) (by kernel_rfl) (by kernel_rfl) (fun _ _ _ h => h) ?_ ?_
          rotate_left 1
          · (refine Or.inl ⟨by rfl, ?_⟩; intro w' hw'; have hq := below_via hcur hw'; have hq_e0 := Ext.trans e0 hw'; have hq_eX := Ext.trans eX hw'; (refine arr_dg.ex (rA6.below hq_eX) labcd (.tmp 5) ?_ ?_ <;> rfl))
          try simp only [Act.put, List.setIfInBounds_toArray, List.set_cons_zero, List.set_cons_succ]
          refine wpAnyE_take (i := 15) (v := ?_) (some 64) rfl rfl (by kernel_rfl) (by kernel_rfl) (by kernel_rfl) (fun _ _ _ h => h) ?_ ?_
          rotate_left 1
          · (refine Or.inl ⟨by rfl, ?_⟩; intro w' hw'; have hq := below_via hcur hw'; have hq_e0 := Ext.trans e0 hw'; have hq_eX := Ext.trans eX hw'; (try go_simp); (try rfl); done)
          try simp only [Act.put, List.setIfInBounds_toArray, List.set_cons_zero, List.set_cons_succ]
          refine wpAnyE_take (i := 16) (v := ?_) (some 65) rfl rfl (by kernel_rfl) (by kernel_rfl) (by kernel_rfl) (fun _ _ _ h => h) ?_ ?_
          rotate_left 1
          · (refine Or.inl ⟨by rfl, ?_⟩; intro w' hw'; have hq := below_via hcur hw'; have hq_e0 := Ext.trans e0 hw'; have hq_eX := Ext.trans eX hw'; (try go_simp); (try rfl); done)
          try simp only [Act.put, List.setIfInBounds_toArray, List.set_cons_zero, List.set_cons_succ]
          refine wpAnyE_take (i := 17) (v := ?_) (some 66) rfl rfl (by kernel_rfl) (by kernel_rfl) (by kernel_rfl) (fun _ _ _ h => h) ?_ ?_
          rotate_left 1
          · (refine Or.inl ⟨by rfl, ?_⟩; intro w' hw'; have hq := below_via hcur hw'; have hq_e0 := Ext.trans e0 hw'; have hq_eX := Ext.trans eX hw'; (refine arr_dg.exAt (h4 _ hq_e0) l4 (.tmp 65) ?_ ?_ <;> rfl))
          try simp only [Act.put, List.setIfInBounds_toArray, List.set_cons_zero, List.set_cons_succ]
          refine wpAnyE_one (i := 13) rfl (by kernel_rfl) (by rfl) (fun K hK => ?_)
          go_simp
          (with_reducible refine (cr5 _ (sd5 _ e0)).mono ?_); rintro e w7 ⟨rfl, hb⟩
          refine hK.out _ _ hb ?_
          replace hcur := below_via hcur hb; clear hK K
          replace e0 := Ext.trans e0 hb
          replace eX := Ext.trans eX hb
          try simp only [Act.put, List.setIfInBounds_toArray, List.set_cons_zero, List.set_cons_succ]
          refine wpAnyE_one (i := 18) rfl (by kernel_rfl) (by rfl) (fun K hK => ?_)
          go_simp
          (with_reducible refine (call5 _).mono ?_); rintro e w7 ⟨rfl, hb⟩
          refine hK.out _ _ hb ?_
          replace hcur := below_via hcur hb; clear hK K
          replace e0 := Ext.trans e0 hb
          replace eX := Ext.trans eX hb
          try simp only [Act.put, List.setIfInBounds_toArray, List.set_cons_zero, List.set_cons_succ]
          refine wpAnyE_take (i := 19) (v := ?_) (some 68) rfl rfl (by kernel_rfl) (by kernel_rfl) (by kernel_rfl) (fun _ _ _ h => h) ?_ ?_
          rotate_left 1
          · (refine Or.inl ⟨by rfl, ?_⟩; intro w' hw'; have hq := below_via hcur hw'; have hq_e0 := Ext.trans e0 hw'; have hq_eX := Ext.trans eX hw'; (try go_simp); (try rfl); done)
          try simp only [Act.put, List.setIfInBounds_toArray, List.set_cons_zero, List.set_cons_succ]
          refine wpAnyE_take (i := 20) (v := ?_) (some 69) rfl rfl (by kernel_rfl) (by kernel_rfl) (by kernel_rfl) (fun _ _ _ h => h) ?_ ?_
          rotate_left 1
          · (refine Or.inl ⟨by rfl, ?_⟩; intro w' hw'; have hq := below_via hcur hw'; have hq_e0 := Ext.trans e0 hw'; have hq_eX := Ext.trans eX hw'; (try go_simp); (try rfl); done)
          try simp only [Act.put, List.setIfInBounds_toArray, List.set_cons_zero, List.set_cons_succ]
          refine wpAnyE_take (i := 21) (v := ?_) (some 70) rfl rfl (by kernel_rfl) (by kernel_rfl) (by kernel_rfl) (fun _ _ _ h => h) ?_ ?_
          rotate_left 1
          · (refine Or.inl ⟨by rfl, ?_⟩; intro w' hw'; have hq := below_via hcur hw'; have hq_e0 := Ext.trans e0 hw'; have hq_eX := Ext.trans eX hw'; (try go_simp); (try rfl); done)
          try simp only [Act.put, List.setIfInBounds_toArray, List.set_cons_zero, List.set_cons_succ]
          refine wpAnyE_take (i := 22) (v := ?_) (some 71) rfl rfl (by kernel_rfl) (by kernel_rfl) (by kernel_rfl) (fun _ _ _ h => h) ?_ ?_
          rotate_left 1
          · (refine Or.inl ⟨by rfl, ?_⟩; intro w' hw'; have hq := below_via hcur hw'; have hq_e0 := Ext.trans e0 hw'; have hq_eX := Ext.trans eX hw'; (try go_simp); (try rfl); done)
          try simp only [Act.put, List.setIfInBounds_toArray, List.set_cons_zero, List.set_cons_succ]
          refine wpAnyE_take (i := 23) (v := ?_) (some 72) rfl rfl (by kernel_rfl) (by kernel_rfl) (by kernel_rfl) (fun _ _ _ h => h) ?_ ?_
          rotate_left 1
          · (refine Or.inl ⟨by rfl, ?_⟩; intro w' hw'; have hq := below_via hcur hw'; have hq_e0 := Ext.trans e0 hw'; have hq_eX := Ext.trans eX hw'; (try go_simp); (try rfl); done)
          try simp only [Act.put, List.setIfInBounds_toArray, List.set_cons_zero, List.set_cons_succ]
          refine wpAnyE_take (i := 25) (v := ?_) (some 74) rfl rfl (by kernel_rfl) (by kernel_rfl) (by kernel_rfl) (fun _ _ _ h => h) ?_ ?_
          rotate_left 1
          · (refine Or.inl ⟨by rfl, ?_⟩; intro w' hw'; have hq := below_via hcur hw'; have hq_e0 := Ext.trans e0 hw'; have hq_eX := Ext.trans eX hw'; (refine arr_dg.ex (rA6.below hq_eX) labcd (.tmp 5) ?_ ?_ <;> rfl))
          try simp only [Act.put, List.setIfInBounds_toArray, List.set_cons_zero, List.set_cons_succ]
          refine wpAnyE_take (i := 26) (v := ?_) (some 75) rfl rfl (by kernel_rfl) (by kernel_rfl) (by kernel_rfl) (fun _ _ _ h => h) ?_ ?_
          rotate_left 1
          · (refine Or.inl ⟨by rfl, ?_⟩; intro w' hw'; have hq := below_via hcur hw'; have hq_e0 := Ext.trans e0 hw'; have hq_eX := Ext.trans eX hw'; (refine arr_dg.ex (rD6.below hq_eX) lc (.tmp 4) ?_ ?_ <;> rfl))
          try simp only [Act.put, List.setIfInBounds_toArray, List.set_cons_zero, List.set_cons_succ]
          refine wpAnyE_one (i := 24) rfl (by kernel_rfl) (by rfl) (fun K hK => ?_)
          go_simp
          (with_reducible refine (cr6 _ (sd6 _ e0)).mono ?_); rintro e w7 ⟨rfl, hb⟩
          refine hK.out _ _ hb ?_
          replace hcur := below_via hcur hb; clear hK K
          replace e0 := Ext.trans e0 hb
          replace eX := Ext.trans eX hb
          try simp only [Act.put, List.setIfInBounds_toArray, List.set_cons_zero, List.set_cons_succ]
          refine wpAnyE_one (i := 27) rfl (by kernel_rfl) (by rfl) (fun K hK => ?_)
          go_simp
          (with_reducible refine (call6 _).mono ?_); rintro e w7 ⟨rfl, hb⟩
          refine hK.out _ _ hb ?_
          replace hcur := below_via hcur hb; clear hK K
          replace e0 := Ext.trans e0 hb
          replace eX := Ext.trans eX hb
          try simp only [Act.put, List.setIfInBounds_toArray, List.set_cons_zero, List.set_cons_succ]
          refine wpAnyE_take (i := 28) (v := ?_) (some 77) rfl rfl (by kernel_rfl) (by kernel_rfl) (by kernel_rfl) (fun _ _ _ h => h) ?_ ?_
          rotate_left 1
          · (refine Or.inl ⟨by rfl, ?_⟩; intro w' hw'; have hq := below_via hcur hw'; have hq_e0 := Ext.trans e0 hw'; have hq_eX := Ext.trans eX hw'; (try go_simp); (try rfl); done)
          try simp only [Act.put, List.setIfInBounds_toArray, List.set_cons_zero, List.set_cons_succ]
          refine wpAnyE_take (i := 29) (v := ?_) (some 78) rfl rfl (by kernel_rfl) (by kernel_rfl) (by kernel_rfl) (fun _ _ _ h => h) ?_ ?_
          rotate_left 1
          · (refine Or.inl ⟨by rfl, ?_⟩; intro w' hw'; have hq := below_via hcur hw'; have hq_e0 := Ext.trans e0 hw'; have hq_eX := Ext.trans eX hw'; (try go_simp); (try rfl); done)
          try simp only [Act.put, List.setIfInBounds_toArray, List.set_cons_zero, List.set_cons_succ]
          refine wpAnyE_done (by kernel_rfl) ?_ _
          clear call7 call5 call6 cefd q7 q5 q6 cr5 cr6 hS5 hS6 sd5 sd6 h4 h6 eX
          generalize hW7 : w7 = W7 at *
          clear hW7
          go_wp2_with fail
          (with_reducible refine (cs1 _ (sd7 _ e0)).mono ?_); rintro e w8 ⟨rfl, b8⟩
          have x8 := Ext.trans e0 (Ext.trans b8 (ext_alloc w8 (.cells (bs zer).toArray 25 (0, 0))))
          have hc8 := Below.trans hcur ((Ext.trans b8 (ext_alloc w8 (.cells (bs zer).toArray 25 (0, 0)))).mono hcur.size)
          go_wp2_with ((with_reducible refine at_store ?_); refine arr_dg.store_newL zer_length rfl zer_length _ _ rfl rfl rfl ?_)
          generalize w8.alloc (.cells (bs zer).toArray 25 (0, 0)) = W8 at *
          generalize w8.heap.size = G8 at *
          (with_reducible refine (cs2 _ (sd7 _ x8)).mono ?_); rintro e w9 ⟨rfl, b9⟩
          have x9 := Ext.trans x8 (Ext.trans b9 (ext_alloc w9 (.cells (bs zer).toArray 25 (0, 0))))
          have hc9 := Below.trans hc8 ((Ext.trans b9 (ext_alloc w9 (.cells (bs zer).toArray 25 (0, 0)))).mono hc8.size)
          go_wp2_with ((with_reducible refine at_store ?_); refine arr_dg.store_newL zer_length rfl zer_length _ _ rfl rfl rfl ?_)
          generalize w9.alloc (.cells (bs zer).toArray 25 (0, 0)) = W9 at *
          generalize w9.heap.size = G9 at *
          (with_reducible refine (cs3 _).mono ?_); rintro e w10 ⟨rfl, b10⟩
          have x10 := Ext.trans x9 (Ext.trans b10 (ext_alloc w10 (.cells (bs zer).toArray 25 (0, 0))))
          have hc10 := Below.trans hc9 ((Ext.trans b10 (ext_alloc w10 (.cells (bs zer).toArray 25 (0, 0)))).mono hc9.size)
          go_wp2_with ((with_reducible refine at_store ?_); refine arr_dg.store_newL zer_length rfl zer_length _ _ rfl rfl rfl ?_)
          generalize w10.alloc (.cells (bs zer).toArray 25 (0, 0)) = W10 at *
          generalize w10.heap.size = G10 at *
          (with_reducible refine (cs4 _ (sd7 _ x10)).mono ?_); rintro e w11 ⟨rfl, b11⟩
          have x11 := Ext.trans x10 (Ext.trans b11 (ext_alloc w11 (.cells (bs n7).toArray 25 (0, 0))))
          have hc11 := Below.trans hc10 ((Ext.trans b11 (ext_alloc w11 (.cells (bs n7).toArray 25 (0, 0)))).mono hc10.size)
          have rN : RowT 25 (w11.alloc (.cells (bs n7).toArray 25 (0, 0))) w11.heap.size n7 := heap_alloc_new _ _
          go_wp2_with ((with_reducible refine at_store ?_); refine arr_dg.store_newL zer_length rfl l7 _ _ rfl rfl rfl ?_)
          generalize w11.alloc (.cells (bs n7).toArray 25 (0, 0)) = W11 at *
          generalize w11.heap.size = G11 at *
          clear hcur e0 x8 hc8 b8 x9 hc9 b9 x10 hc10 b10 b11 cs1 cs2 cs3 cs4
          have hcur : Below w.heap.size w W11 := hc11
          have e0 := x11
          have eX := Ext.refl W11
          have clv := fun w' => levels_any (.slice none 0 0) [] w' (slD_nil w') (by decide)
          have cls := fun w' => leaves_any (.slice none 0 0) [] w' ⟨[], sl_nil w', rfl, fun i u x h => by simp at h⟩ (by decide) (by simp)
          have cr0 := fun w' => root_zero (.slice none 0 0) w' (slD_nil w')
          rw [rootL_nil] at cr0
          have qne := neq_dg d0 (sha []) l0 (sha_length [])
          rw [hne] at qne
          generalize sha [] = s0 at *
          rw [show lvls [] = [] from rfl] at clv
          rw [show ([] : List (List UInt8)).map leafL = [] from rfl] at cls
          clear hne
          refine wp_region_E (by kernel_rfl) ?_
          replace hcur := below_via hcur (ext_drew _)
          replace e0 := Ext.trans e0 (ext_drew _)
          replace eX := Ext.trans eX (ext_drew _)
          refine wpAnyE_take (i := 0) (v := ?_) (some 98) rfl rfl (by kernel_rfl) (by kernel_rfl) (by kernel_rfl) (fun _ _ _ h => h) ?_ ?_
          rotate_left 1
          · (refine Or.inl ⟨by rfl, ?_⟩; intro w' hw'; have hq := below_via hcur hw'; have hq_e0 := Ext.trans e0 hw'; have hq_eX := Ext.trans eX hw'; (try go_simp); (try rfl); done)
          try simp only [Act.put, List.setIfInBounds_toArray, List.set_cons_zero, List.set_cons_succ]
          refine wpAnyE_take (i := 1) (v := ?_) (some 99) rfl rfl (by kernel_rfl) (by kernel_rfl) (by kernel_rfl) (fun _ _ _ h => h) ?_ ?_
          rotate_left 1
          · (refine Or.inl ⟨by rfl, ?_⟩; intro w' hw'; have hq := below_via hcur hw'; have hq_e0 := Ext.trans e0 hw'; have hq_eX := Ext.trans eX hw'; (try go_simp); (try rfl); done)
          try simp only [Act.put, List.setIfInBounds_toArray, List.set_cons_zero, List.set_cons_succ]
          refine wpAnyE_take (i := 2) (v := ?_) (some 100) rfl rfl (by kernel_rfl) (by kernel_rfl) (by kernel_rfl) (fun _ _ _ h => h) ?_ ?_
          rotate_left 1
          · (refine Or.inl ⟨by rfl, ?_⟩; intro w' hw'; have hq := below_via hcur hw'; have hq_e0 := Ext.trans e0 hw'; have hq_eX := Ext.trans eX hw'; (try go_simp); (try rfl); done)
          try simp only [Act.put, List.setIfInBounds_toArray, List.set_cons_zero, List.set_cons_succ]
          refine wpAnyE_take (i := 3) (v := ?_) (some 101) rfl rfl (by kernel_rfl) (by kernel_rfl) (by kernel_rfl) (fun _ _ _ h => h) ?_ ?_
          rotate_left 1
          · (refine Or.inl ⟨by rfl, ?_⟩; intro w' hw'; have hq := below_via hcur hw'; have hq_e0 := Ext.trans e0 hw'; have hq_eX := Ext.trans eX hw'; (try go_simp); (try rfl); done)
          try simp only [Act.put, List.setIfInBounds_toArray, List.set_cons_zero, List.set_cons_succ]
          refine wpAnyE_take (i := 4) (v := ?_) (some 102) rfl rfl (by kernel_rfl) (by kernel_rfl) (by kernel_rfl) (fun _ _ _ h => h) ?_ ?_
          rotate_left 1
          · (refine Or.inl ⟨by rfl, ?_⟩; intro w' hw'; have hq := below_via hcur hw'; have hq_e0 := Ext.trans e0 hw'; have hq_eX := Ext.trans eX hw'; (try go_simp); (try rfl); done)
          try simp only [Act.put, List.setIfInBounds_toArray, List.set_cons_zero, List.set_cons_succ]
          refine wpAnyE_take (i := 5) (v := ?_) (some 103) rfl rfl (by kernel_rfl) (by kernel_rfl) (by kernel_rfl) (fun _ _ _ h => h) ?_ ?_
          rotate_left 1
          · (refine Or.inl ⟨by rfl, ?_⟩; intro w' hw'; have hq := below_via hcur hw'; have hq_e0 := Ext.trans e0 hw'; have hq_eX := Ext.trans eX hw'; (try go_simp); (try rfl); done)
          try simp only [Act.put, List.setIfInBounds_toArray, List.set_cons_zero, List.set_cons_succ]
          refine wpAnyE_take (i := 6) (v := ?_) (some 104) rfl rfl (by kernel_rfl) (by kernel_rfl) (by kernel_rfl) (fun _ _ _ h => h) ?_ ?_
          rotate_left 1
          · (refine Or.inl ⟨by rfl, ?_⟩; intro w' hw'; have hq := below_via hcur hw'; have hq_e0 := Ext.trans e0 hw'; have hq_eX := Ext.trans eX hw'; (try go_simp); (try rfl); done)
          try simp only [Act.put, List.setIfInBounds_toArray, List.set_cons_zero, List.set_cons_succ]
          refine wpAnyE_take (i := 7) (v := ?_) (some 105) rfl rfl (by kernel_rfl) (by kernel_rfl) (by kernel_rfl) (fun _ _ _ h => h) ?_ ?_
          rotate_left 1
          · (refine Or.inl ⟨by rfl, ?_⟩; intro w' hw'; have hq := below_via hcur hw'; have hq_e0 := Ext.trans e0 hw'; have hq_eX := Ext.trans eX hw'; (try go_simp); (try rfl); done)
          try simp only [Act.put, List.setIfInBounds_toArray, List.set_cons_zero, List.set_cons_succ]
          refine wpAnyE_take (i := 8) (v := ?_) (some 106) rfl rfl (by kernel_rfl) (by kernel_rfl) (by kernel_rfl) (fun _ _ _ h => h) ?_ ?_
          rotate_left 1
          · (refine Or.inl ⟨by rfl, ?_⟩; intro w' hw'; have hq := below_via hcur hw'; have hq_e0 := Ext.trans e0 hw'; have hq_eX := Ext.trans eX hw'; (try go_simp); (try rfl); done)
          try simp only [Act.put, List.setIfInBounds_toArray, List.set_cons_zero, List.set_cons_succ]
          refine wpAnyE_take (i := 9) (v := ?_) (some 107) rfl rfl (by kernel_rfl) (by kernel_rfl) (by kernel_rfl) (fun _ _ _ h => h) ?_ ?_
          rotate_left 1
          · (refine Or.inl ⟨by rfl, ?_⟩; intro w' hw'; have hq := below_via hcur hw'; have hq_e0 := Ext.trans e0 hw'; have hq_eX := Ext.trans eX hw'; (try go_simp); (try rfl); done)
          try simp only [Act.put, List.setIfInBounds_toArray, List.set_cons_zero, List.set_cons_succ]
          refine wpAnyE_take (i := 10) (v := ?_) (some 108) rfl rfl (by kernel_rfl) (by kernel_rfl) (by kernel_rfl) (fun _ _ _ h => h) ?_ ?_
          rotate_left 1
          · (refine Or.inl ⟨by rfl, ?_⟩; intro w' hw'; have hq := below_via hcur hw'; have hq_e0 := Ext.trans e0 hw'; have hq_eX := Ext.trans eX hw'; (try go_simp); (try rfl); done)
          try simp only [Act.put, List.setIfInBounds_toArray, List.set_cons_zero, List.set_cons_succ]
          refine wpAnyE_take (i := 11) (v := ?_) (some 109) rfl rfl (by kernel_rfl) (by kernel_rfl) (by kernel_rfl) (fun _ _ _ h => h) ?_ ?_
          rotate_left 1
          · (refine Or.inl ⟨by rfl, ?_⟩; intro w' hw'; have hq := below_via hcur hw'; have hq_e0 := Ext.trans e0 hw'; have hq_eX := Ext.trans eX hw'; (try go_simp); (try rfl); done)
          try simp only [Act.put, List.setIfInBounds_toArray, List.set_cons_zero, List.set_cons_succ]
          refine wpAnyE_take (i := 12) (v := ?_) (some 110) rfl rfl (by kernel_rfl) (by kernel_rfl) (by kernel_rfl) (fun _ _ _ h => h) ?_ ?_
          rotate_left 1
          · (refine Or.inl ⟨by rfl, ?_⟩; intro w' hw'; have hq := below_via hcur hw'; have hq_e0 := Ext.trans e0 hw'; have hq_eX := Ext.trans eX hw'; (try go_simp); (try rfl); done)
          try simp only [Act.put, List.setIfInBounds_toArray, List.set_cons_zero, List.set_cons_succ]
          refine wpAnyE_take (i := 13) (v := ?_) (some 111) rfl rfl (by kernel_rfl) (by kernel_rfl) (by kernel_rfl) (fun _ _ _ h => h) ?_ ?_
          rotate_left 1
          · (refine Or.inl ⟨by rfl, ?_⟩; intro w' hw'; have hq := below_via hcur hw'; have hq_e0 := Ext.trans e0 hw'; have hq_eX := Ext.trans eX hw'; (try go_simp); (try rfl); done)
          try simp only [Act.put, List.setIfInBounds_toArray, List.set_cons_zero, List.set_cons_succ]
          refine wpAnyE_take (i := 14) (v := ?_) (some 112) rfl rfl (by kernel_rfl) (by kernel_rfl) (by kernel_rfl) (fun _ _ _ h => h) ?_ ?_
          rotate_left 1
          · (refine Or.inl ⟨by rfl, ?_⟩; intro w' hw'; have hq := below_via hcur hw'; have hq_e0 := Ext.trans e0 hw'; have hq_eX := Ext.trans eX hw'; (try go_simp); (try rfl); done)
          try simp only [Act.put, List.setIfInBounds_toArray, List.set_cons_zero, List.set_cons_succ]
          refine wpAnyE_take (i := 15) (v := ?_) (some 113) rfl rfl (by kernel_rfl) (by kernel_rfl) (by kernel_rfl) (fun _ _ _ h => h) ?_ ?_
          rotate_left 1
          · (refine Or.inl ⟨by rfl, ?_⟩; intro w' hw'; have hq := below_via hcur hw'; have hq_e0 := Ext.trans e0 hw'; have hq_eX := Ext.trans eX hw'; (refine arr_dg.ex (rN.below hq_eX) l7 (.tmp 12) ?_ ?_ <;> rfl))
          try simp only [Act.put, List.setIfInBounds_toArray, List.set_cons_zero, List.set_cons_succ]
          refine wpAnyE_take (i := 16) (v := ?_) (some 114) rfl rfl (by kernel_rfl) (by kernel_rfl) (by kernel_rfl) (fun _ _ _ h => h) ?_ ?_
          rotate_left 1
          · (refine Or.inl ⟨by rfl, ?_⟩; intro w' hw'; have hq := below_via hcur hw'; have hq_e0 := Ext.trans e0 hw'; have hq_eX := Ext.trans eX hw'; (try go_simp); (try rfl); done)
          try simp only [Act.put, List.setIfInBounds_toArray, List.set_cons_zero, List.set_cons_succ]
          refine wpAnyE_one (i := 17) rfl (by kernel_rfl) (by rfl) (fun K hK => ?_)
          go_simp
          (with_reducible refine (cr7 _ (sd7 _ e0)).mono ?_); rintro e w7 ⟨rfl, hb⟩
          refine hK.out _ _ hb ?_
          replace hcur := below_via hcur hb; clear hK K
          replace e0 := Ext.trans e0 hb
          replace eX := Ext.trans eX hb
          try simp only [Act.put, List.setIfInBounds_toArray, List.set_cons_zero, List.set_cons_succ]
          refine wpAnyE_take (i := 18) (v := ?_) (some 116) rfl rfl (by kernel_rfl) (by kernel_rfl) (by kernel_rfl) (fun _ _ _ h => h) ?_ ?_
          rotate_left 1
          · (refine Or.inl ⟨by rfl, ?_⟩; intro w' hw'; have hq := below_via hcur hw'; have hq_e0 := Ext.trans e0 hw'; have hq_eX := Ext.trans eX hw'; (try go_simp); (try rfl); done)
          try simp only [Act.put, List.setIfInBounds_toArray, List.set_cons_zero, List.set_cons_succ]
          refine wpAnyE_take (i := 19) (v := ?_) (some 117) rfl rfl (by kernel_rfl) (by kernel_rfl) (by kernel_rfl) (fun _ _ _ h => h) ?_ ?_
          rotate_left 1
          · (refine Or.inl ⟨by rfl, ?_⟩; intro w' hw'; have hq := below_via hcur hw'; have hq_e0 := Ext.trans e0 hw'; have hq_eX := Ext.trans eX hw'; (try go_simp); (try rfl); done)
          try simp only [Act.put, List.setIfInBounds_toArray, List.set_cons_zero, List.set_cons_succ]
          refine wpAnyE_take (i := 20) (v := ?_) (some 118) rfl rfl (by kernel_rfl) (by kernel_rfl) (by kernel_rfl) (fun _ _ _ h => h) ?_ ?_
          rotate_left 1
          · (refine Or.inl ⟨by rfl, ?_⟩; intro w' hw'; have hq := below_via hcur hw'; have hq_e0 := Ext.trans e0 hw'; have hq_eX := Ext.trans eX hw'; (try go_simp); (try rfl); done)
          try simp only [Act.put, List.setIfInBounds_toArray, List.set_cons_zero, List.set_cons_succ]
          refine wpAnyE_one (i := 21) rfl (by kernel_rfl) (by rfl) (fun K hK => ?_)
          go_simp
          (with_reducible refine (clv _).mono ?_); rintro e w12 ⟨vL, vsL, rfl, hoL, hrL, hb⟩
          obtain rfl : vsL = [] := List.eq_nil_of_length_eq_zero hrL.len
          obtain ⟨AL, cL, rfl, _⟩ := id hoL.sl
          refine hK.out _ _ hb ?_
          replace hcur := below_via hcur hb; clear hK K
          replace e0 := Ext.trans e0 hb
          replace eX := Ext.trans eX hb
          try simp only [Act.put, List.setIfInBounds_toArray, List.set_cons_zero, List.set_cons_succ]
          refine wpAnyE_take (i := 22) (v := ?_) (some 120) rfl rfl (by kernel_rfl) (by kernel_rfl) (by kernel_rfl) (fun _ _ _ h => h) ?_ ?_
          rotate_left 1
          · (refine Or.inl ⟨by rfl, ?_⟩; intro w' hw'; have hq := below_via hcur hw'; have hq_e0 := Ext.trans e0 hw'; have hq_eX := Ext.trans eX hw'; (try go_simp); (try rfl); done)
          try simp only [Act.put, List.setIfInBounds_toArray, List.set_cons_zero, List.set_cons_succ]
          refine wpAnyE_take (i := 23) (v := ?_) (some 121) rfl rfl (by kernel_rfl) (by kernel_rfl) (by kernel_rfl) (fun _ _ _ h => h) ?_ ?_
          rotate_left 1
          · (refine Or.inl ⟨by rfl, ?_⟩; intro w' hw'; have hq := below_via hcur hw'; have hq_e0 := Ext.trans e0 hw'; have hq_eX := Ext.trans eX hw'; (try go_simp); (try rfl); done)
          try simp only [Act.put, List.setIfInBounds_toArray, List.set_cons_zero, List.set_cons_succ]
          refine wpAnyE_take (i := 24) (v := ?_) (some 122) rfl rfl (by kernel_rfl) (by kernel_rfl) (by kernel_rfl) (fun _ _ _ h => h) ?_ ?_
          rotate_left 1
          · (refine Or.inl ⟨by rfl, ?_⟩; intro w' hw'; have hq := below_via hcur hw'; have hq_e0 := Ext.trans e0 hw'; have hq_eX := Ext.trans eX hw'; (try go_simp); (try rfl); done)
          try simp only [Act.put, List.setIfInBounds_toArray, List.set_cons_zero, List.set_cons_succ]
          refine wpAnyE_take (i := 25) (v := ?_) (some 123) rfl rfl (by kernel_rfl) (by kernel_rfl) (by kernel_rfl) (fun _ _ _ h => h) ?_ ?_
          rotate_left 1
          · (refine Or.inl ⟨by rfl, ?_⟩; intro w' hw'; have hq := below_via hcur hw'; have hq_e0 := Ext.trans e0 hw'; have hq_eX := Ext.trans eX hw'; (try go_simp); (try rfl); done)
          try simp only [Act.put, List.setIfInBounds_toArray, List.set_cons_zero, List.set_cons_succ]
          refine wpAnyE_one (i := 26) rfl (by kernel_rfl) (by rfl) (fun K hK => ?_)
          go_simp
          (with_reducible refine (cl0 _).mono ?_); rintro e w13 ⟨rfl, hb⟩
          refine hK.out _ _ hb ?_
          replace hcur := below_via hcur hb; clear hK K
          replace e0 := Ext.trans e0 hb
          replace eX := Ext.trans eX hb
          try simp only [Act.put, List.setIfInBounds_toArray, List.set_cons_zero, List.set_cons_succ]
          refine wpAnyE_one (i := 27) rfl (by kernel_rfl) (by rfl) (fun K hK => ?_)
          go_simp
          (with_reducible refine (cr0 _).mono ?_); rintro e w14 ⟨rfl, hb⟩
          refine hK.out _ _ hb ?_
          replace hcur := below_via hcur hb; clear hK K
          replace e0 := Ext.trans e0 hb
          replace eX := Ext.trans eX hb
          try simp only [Act.put, List.setIfInBounds_toArray, List.set_cons_zero, List.set_cons_succ]
          refine wpAnyE_take (i := 28) (v := ?_) (some 126) rfl rfl (by kernel_rfl) (by kernel_rfl) (by kernel_rfl) (fun _ _ _ h => h) ?_ ?_
          rotate_left 1
          · (refine Or.inl ⟨by rfl, ?_⟩; intro w' hw'; have hq := below_via hcur hw'; have hq_e0 := Ext.trans e0 hw'; have hq_eX := Ext.trans eX hw'; (try go_simp); (try rfl); done)
          try simp only [Act.put, List.setIfInBounds_toArray, List.set_cons_zero, List.set_cons_succ]
          refine wpAnyE_take (i := 29) (v := ?_) (some 127) rfl rfl (by kernel_rfl) (by kernel_rfl) (by kernel_rfl) (fun _ _ _ h => h) ?_ ?_
          rotate_left 1
          · (refine Or.inl ⟨by rfl, ?_⟩; intro w' hw'; have hq := below_via hcur hw'; have hq_e0 := Ext.trans e0 hw'; have hq_eX := Ext.trans eX hw'; (try go_simp); (try rfl); done)
          try simp only [Act.put, List.setIfInBounds_toArray, List.set_cons_zero, List.set_cons_succ]
          refine wpAnyE_take (i := 30) (v := ?_) (some 128) rfl rfl (by kernel_rfl) (by kernel_rfl) (by kernel_rfl) (fun _ _ _ h => h) ?_ ?_
          rotate_left 1
          · (refine Or.inl ⟨by rfl, ?_⟩; intro w' hw'; have hq := below_via hcur hw'; have hq_e0 := Ext.trans e0 hw'; have hq_eX := Ext.trans eX hw'; (try go_simp); (try rfl); done)
          try simp only [Act.put, List.setIfInBounds_toArray, List.set_cons_zero, List.set_cons_succ]
          refine wpAnyE_one (i := 31) rfl (by kernel_rfl) (by rfl) (fun K hK => ?_)
          go_simp
          (with_reducible refine (cls _).mono ?_); rintro e w15 ⟨vF, rfl, hoF, hb⟩
          obtain ⟨⟨AF, cF, rfl, _⟩, _⟩ := id hoF.sl
          refine hK.out _ _ hb ?_
          replace hcur := below_via hcur hb; clear hK K
          replace e0 := Ext.trans e0 hb
          replace eX := Ext.trans eX hb
          try simp only [Act.put, List.setIfInBounds_toArray, List.set_cons_zero, List.set_cons_succ]
          refine wpAnyE_take (i := 32) (v := ?_) (some 130) rfl rfl (by kernel_rfl) (by kernel_rfl) (by kernel_rfl) (fun _ _ _ h => h) ?_ ?_
          rotate_left 1
          · (refine Or.inl ⟨by rfl, ?_⟩; intro w' hw'; have hq := below_via hcur hw'; have hq_e0 := Ext.trans e0 hw'; have hq_eX := Ext.trans eX hw'; (try go_simp); (try rfl); done)
          try simp only [Act.put, List.setIfInBounds_toArray, List.set_cons_zero, List.set_cons_succ]
          refine wpAnyE_take (i := 33) (v := ?_) (some 131) rfl rfl (by kernel_rfl) (by kernel_rfl) (by kernel_rfl) (fun _ _ _ h => h) ?_ ?_
          rotate_left 1
          · (refine Or.inl ⟨by rfl, ?_⟩; intro w' hw'; have hq := below_via hcur hw'; have hq_e0 := Ext.trans e0 hw'; have hq_eX := Ext.trans eX hw'; (try go_simp); (try rfl); done)
          try simp only [Act.put, List.setIfInBounds_toArray, List.set_cons_zero, List.set_cons_succ]
          refine wpAnyE_take (i := 34) (v := ?_) (some 132) rfl rfl (by kernel_rfl) (by kernel_rfl) (by kernel_rfl) (fun _ _ _ h => h) ?_ ?_
          rotate_left 1
          · (refine Or.inl ⟨by rfl, ?_⟩; intro w' hw'; have hq := below_via hcur hw'; have hq_e0 := Ext.trans e0 hw'; have hq_eX := Ext.trans eX hw'; (try go_simp); (try rfl); done)
          try simp only [Act.put, List.setIfInBounds_toArray, List.set_cons_zero, List.set_cons_succ]
          refine wpAnyE_take (i := 35) (v := ?_) (some 133) rfl rfl (by kernel_rfl) (by kernel_rfl) (by kernel_rfl) (fun _ _ _ h => h) ?_ ?_
          rotate_left 1
          · (refine Or.inl ⟨by rfl, ?_⟩; intro w' hw'; have hq := below_via hcur hw'; have hq_e0 := Ext.trans e0 hw'; have hq_eX := Ext.trans eX hw'; (try go_simp); (try rfl); done)
          try simp only [Act.put, List.setIfInBounds_toArray, List.set_cons_zero, List.set_cons_succ]
          refine wpAnyE_one (i := 36) rfl (by kernel_rfl) (by rfl) (fun K hK => ?_)
          go_simp
          (with_reducible refine (wakes_any _).mono ?_); rintro e w16 ⟨rfl, hb⟩
          refine hK.out _ _ hb ?_
          replace hcur := below_via hcur hb; clear hK K
          replace e0 := Ext.trans e0 hb
          replace eX := Ext.trans eX hb
          try simp only [Act.put, List.setIfInBounds_toArray, List.set_cons_zero, List.set_cons_succ]
          refine wpAnyE_take (i := 37) (v := ?_) (some 135) rfl rfl (by kernel_rfl) (by kernel_rfl) (by kernel_rfl) (fun _ _ _ h => h) ?_ ?_
          rotate_left 1
          · (refine Or.inl ⟨by rfl, ?_⟩; intro w' hw'; have hq := below_via hcur hw'; have hq_e0 := Ext.trans e0 hw'; have hq_eX := Ext.trans eX hw'; (try go_simp); (try rfl); done)
          try simp only [Act.put, List.setIfInBounds_toArray, List.set_cons_zero, List.set_cons_succ]
          refine wpAnyE_take (i := 38) (v := ?_) (some 0) rfl rfl (by kernel_rfl) (by kernel_rfl) (by kernel_rfl) (fun _ _ _ h => h) ?_ ?_
          rotate_left 1
          · (refine Or.inl ⟨by rfl, ?_⟩; intro w' hw'; have hq := below_via hcur hw'; have hq_e0 := Ext.trans e0 hw'; have hq_eX := Ext.trans eX hw'; (try go_simp); (try rfl); done)
          try simp only [Act.put, List.setIfInBounds_toArray, List.set_cons_zero, List.set_cons_succ]
          refine wpAnyE_done (by kernel_rfl) ?_ _
          go_wp2_with fail
          go_ret
          exact ⟨rfl, hcur⟩
end Go.Proofs.Ytidgomppehhkgaa
