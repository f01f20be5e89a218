/- Consistent (walk). -/
import Derived.Test.YtnpbapefjbfndaaZExtQ
set_option linter.unusedVariables false
set_option linter.unusedSimpArgs false
set_option maxRecDepth 10000
namespace Go.Proofs.Ytnpbapefjbfndaa
open Go.RowKit
attribute [local go_sem high] dg_cells guard_dg rs_l rs_lh rs_lhm rs_h rs_hm rs_all

theorem consistentL_in {k n : Nat} {l : List (List UInt8)} {old d : List UInt8} {pick : List (List UInt8) → List UInt8} {ps : List (List UInt8)} (h1 : 1 ≤ n) (h2 : n ≤ l.length) (hne : old ≠ rootX k (l.take n)) :
    consistentL k old d pick l n ps = if (growN k old d pick l.length l n true ps).fits = true ∧ (growN k old d pick l.length l n true ps).old = old ∧ (growN k old d pick l.length l n true ps).new = rootX k l then (growN k old d pick l.length l n true ps).p else none := by
  unfold consistentL
  have : ¬ ((n : Int) < 1 ∨ (l.length : Int) < n ∨ old = rootX k (l.take (n : Int).toNat)) := by
    rw [Int.toNat_natCast]
    intro h
    rcases h with h | h | h
    · omega
    · omega
    · exact hne h
  rw [if_neg this, Int.toNat_natCast]
/-- What stands while the answer is found. -/
structure Fnd2 (w : World) (FB F G H1 H2 OB HB g : Nat) (f : Bool) (h1 h2 old : List UInt8) (w' : World) : Prop where
  below : Below w.heap.size w w'
  fb : C1 62 w' FB (.pointer (some ⟨F, 0, none⟩))
  fits : C1 4 w' G (.bool f)
  a : RowT 38 w' H1 h1
  b : RowT 38 w' H2 h2
  ob : RowT 38 w' OB old
  hb : C1 26 w' HB (hv g)
theorem Fnd2.ext {w w' w'' : World} {FB F G H1 H2 OB HB g : Nat} {f : Bool} {h1 h2 old : List UInt8} (h : Fnd2 w FB F G H1 H2 OB HB g f h1 h2 old w') (hb : Ext w' w'') : Fnd2 w FB F G H1 H2 OB HB g f h1 h2 old w'' :=
  ⟨Below.trans h.below (hb.mono h.below.size), h.fb.below hb, h.fits.below hb, h.a.below hb, h.b.below hb, h.ob.below hb, h.hb.below hb⟩
theorem Fnd2.cell {w w' : World} {FB F G H1 H2 OB HB g D j : Nat} {f : Bool} {h1 h2 old : List UInt8} (h : Fnd2 w FB F G H1 H2 OB HB g f h1 h2 old w') (h0 : w.heap.size ≤ D) (n1 : FB ≠ D) (n2 : G ≠ D) (n3 : H1 ≠ D) (n4 : H2 ≠ D) (n5 : OB ≠ D) (n6 : HB ≠ D) (u : Value) :
    Fnd2 w FB F G H1 H2 OB HB g f h1 h2 old (w'.setCell ⟨D, j, none⟩ u) :=
  ⟨below_setCell h.below h0 u, h.fb.other n1 _, h.fits.other n2 _, (Below.heap_setCell _ _ _ _ n3).trans h.a, (Below.heap_setCell _ _ _ _ n4).trans h.b, (Below.heap_setCell _ _ _ _ n5).trans h.ob, h.hb.other n6 _⟩
set_option maxHeartbeats 16000000 in
theorem consistent_go (g k : Nat) (hk : k ≤ 256) (vl : Value) (l : List (List UInt8)) (n : Nat) (old : List UInt8) (ol : old.length = 32) (vp : Value) (ps : List (List UInt8)) (w : World)
    (hl : SlX w vl l) (hp : SlD w vp ps) (hg : HvAt w g k) (hn1 : 1 ≤ n) (hn2 : n ≤ l.length) (hne : old ≠ rootX k (l.take n)) (hll : l.length ≤ 1048576) (hz : ∀ z ∈ l, z.length ≤ 1048576) :
    Calls Try.prog 23 #[hv g, vl, .int .i64 n, dg old, vp] w fun e w' => ∃ v, e = .returned (.tuple #[v, .bool (consistentL k old old firstP l n ps).isSome]) ∧ PairAt w' v (consistentL k old old firstP l n ps) ∧ Below w.heap.size w w' := by
  have q1 := hv_eql g
  have hinc := consistentL_in (k := k) (d := old) (pick := firstP) (ps := ps) hn1 hn2 hne
  obtain ⟨A, c, rfl, hc, hcm⟩ := hl.len
  obtain ⟨Ap, cp, rfl, hcp, hcpm, _⟩ := id hp.1
  obtain ⟨h1, h2, h3, b2, z2⟩ := allocs3 (w := w) (o1 := .cells #[hv g] 26 (0, 0)) (o2 := .cells (bs old).toArray 38 (0, 0)) (o3 := .cells #[.slice none 0 0, .slice none 0 0] 30 (0, 0)) rfl
  have hH : C1 26 _ w.heap.size (hv g) := h1
  have hO : RowT 38 _ (w.heap.size + 1) old := h2
  have hR : PR 30 _ (w.heap.size + 1 + 1) (.slice none 0 0) (.slice none 0 0) := h3
  clear h1 h2 h3
  have hL0 := hl.slice 0 n (by omega) (by omega)
  simp only [List.drop_zero, Nat.sub_zero, slA_zero] at hL0
  have ka := fun w' (h : Ext w w') => root_any g k hk (.slice A n c) (l.take n) w' (by rw [List.length_take]; omega) (fun z h => hz z (List.mem_of_mem_take h)) (hL0.below h) (hg.below h)
  have rl := rootX_length k (l.take n)
  have qe := fun w' => arr_dg.eql old (rootX k (l.take n)) ol rl w'
  rw [beq_eq_false_iff_ne.2 hne] at qe
  generalize rootX k (l.take n) = rt0 at ka qe rl
  clear rl hL0 hne
  have d1 : decide ((n : Int) < 1) = false := decide_eq_false (by omega)
  have d1' : decide (n < 1) = false := decide_eq_false (by omega)
  have d2 : decide (l.length < n) = false := decide_eq_false (by omega)
  have i0 : (0 : Int) ≤ n := by omega
  have i1 : (n : Int) ≤ c := by omega
  have i2 : (n : Int) ≤ l.length := by omega
  unfold hv at *
  change Calls _ _ #[_, _, _, .agg (bs old).toArray, _] _ _
  go_enter Try.func23, Try.ntmps23
  go_wp2_with fail
  generalize World.alloc (World.alloc (World.alloc w _) _) _ = W at *
  have l1 := fun w' (h : Ext W w') => (hH.below h).cell.1
  have hcur : Below w.heap.size w W := b2
  have e0 := Ext.refl W
  refine wp_region_E (by kernel_rfl) ?_
  replace hcur := below_via hcur (ext_drew _)
  replace e0 := Ext.trans e0 (ext_drew _)
  refine wpAnyE_take (i := 0) (v := ?_) (some 17) rfl rfl (by kernel_rfl) (by kernel_rfl) (by kernel_rfl) (fun _ _ _ h => h) ?_ ?_
  rotate_left 1
  · (refine Or.inl ⟨by rfl, ?_⟩; intro w' hw'; have hq := below_via hcur hw'; have hq_e0 := Ext.trans e0 hw'; have hz_l1 := l1 _ hq_e0; (try go_simp); (try rfl); done)
  try simp only [Act.put, List.setIfInBounds_toArray, List.set_cons_zero, List.set_cons_succ]
  refine wpAnyE_take (i := 1) (v := ?_) (some 18) rfl rfl (by kernel_rfl) (by kernel_rfl) (by kernel_rfl) (fun _ _ _ h => h) ?_ ?_
  rotate_left 1
  · (refine Or.inl ⟨by rfl, ?_⟩; intro w' hw'; have hq := below_via hcur hw'; have hq_e0 := Ext.trans e0 hw'; have hz_l1 := l1 _ hq_e0; (try go_simp); (try rfl); done)
  try simp only [Act.put, List.setIfInBounds_toArray, List.set_cons_zero, List.set_cons_succ]
  refine wpAnyE_take (i := 2) (v := ?_) (some 19) rfl rfl (by kernel_rfl) (by kernel_rfl) (by kernel_rfl) (fun _ _ _ h => h) ?_ ?_
  rotate_left 1
  · (refine Or.inl ⟨by rfl, ?_⟩; intro w' hw'; have hq := below_via hcur hw'; have hq_e0 := Ext.trans e0 hw'; have hz_l1 := l1 _ hq_e0; (try go_simp); (try rfl); done)
  try simp only [Act.put, List.setIfInBounds_toArray, List.set_cons_zero, List.set_cons_succ]
  refine wpAnyE_take (i := 3) (v := ?_) (some 20) rfl rfl (by kernel_rfl) (by kernel_rfl) (by kernel_rfl) (fun _ _ _ h => h) ?_ ?_
  rotate_left 1
  · (refine Or.inl ⟨by rfl, ?_⟩; intro w' hw'; have hq := below_via hcur hw'; have hq_e0 := Ext.trans e0 hw'; have hz_l1 := l1 _ hq_e0; (try go_simp); (try rfl); done)
  try simp only [Act.put, List.setIfInBounds_toArray, List.set_cons_zero, List.set_cons_succ]
  refine wpAnyE_take (i := 4) (v := ?_) (some 21) rfl rfl (by kernel_rfl) (by kernel_rfl) (by kernel_rfl) (fun _ _ _ h => h) ?_ ?_
  rotate_left 1
  · (refine Or.inl ⟨by rfl, ?_⟩; intro w' hw'; have hq := below_via hcur hw'; have hq_e0 := Ext.trans e0 hw'; have hz_l1 := l1 _ hq_e0; (try go_simp); (try rfl); done)
  try simp only [Act.put, List.setIfInBounds_toArray, List.set_cons_zero, List.set_cons_succ]
  refine wpAnyE_take (i := 5) (v := ?_) (some 22) rfl rfl (by kernel_rfl) (by kernel_rfl) (by kernel_rfl) (fun _ _ _ h => h) ?_ ?_
  rotate_left 1
  · (refine Or.inl ⟨by rfl, ?_⟩; intro w' hw'; have hq := below_via hcur hw'; have hq_e0 := Ext.trans e0 hw'; have hz_l1 := l1 _ hq_e0; (try go_simp); (try rfl); done)
  try simp only [Act.put, List.setIfInBounds_toArray, List.set_cons_zero, List.set_cons_succ]
  refine wpAnyE_take (i := 6) (v := ?_) (some 23) rfl rfl (by kernel_rfl) (by kernel_rfl) (by kernel_rfl) (fun _ _ _ h => h) ?_ ?_
  rotate_left 1
  · (refine Or.inl ⟨by rfl, ?_⟩; intro w' hw'; have hq := below_via hcur hw'; have hq_e0 := Ext.trans e0 hw'; have hz_l1 := l1 _ hq_e0; (try go_simp); (try rfl); done)
  try simp only [Act.put, List.setIfInBounds_toArray, List.set_cons_zero, List.set_cons_succ]
  refine wpAnyE_take (i := 7) (v := ?_) (some 24) rfl rfl (by kernel_rfl) (by kernel_rfl) (by kernel_rfl) (fun _ _ _ h => h) ?_ ?_
  rotate_left 1
  · (refine Or.inl ⟨by rfl, ?_⟩; intro w' hw'; have hq := below_via hcur hw'; have hq_e0 := Ext.trans e0 hw'; have hz_l1 := l1 _ hq_e0; (try go_simp); (try rfl); done)
  try simp only [Act.put, List.setIfInBounds_toArray, List.set_cons_zero, List.set_cons_succ]
  refine wpAnyE_take (i := 8) (v := ?_) (some 25) rfl rfl (by kernel_rfl) (by kernel_rfl) (by kernel_rfl) (fun _ _ _ h => h) ?_ ?_
  rotate_left 1
  · (refine Or.inl ⟨by rfl, ?_⟩; intro w' hw'; have hq := below_via hcur hw'; have hq_e0 := Ext.trans e0 hw'; have hz_l1 := l1 _ hq_e0; (try go_simp); (try rfl); done)
  try simp only [Act.put, List.setIfInBounds_toArray, List.set_cons_zero, List.set_cons_succ]
  refine wpAnyE_take (i := 9) (v := ?_) (some 26) rfl rfl (by kernel_rfl) (by kernel_rfl) (by kernel_rfl) (fun _ _ _ h => h) ?_ ?_
  rotate_left 1
  · (refine Or.inl ⟨by rfl, ?_⟩; intro w' hw'; have hq := below_via hcur hw'; have hq_e0 := Ext.trans e0 hw'; have hz_l1 := l1 _ hq_e0; (try go_simp); (try rfl); done)
  try simp only [Act.put, List.setIfInBounds_toArray, List.set_cons_zero, List.set_cons_succ]
  refine wpAnyE_take (i := 10) (v := ?_) (some 27) rfl rfl (by kernel_rfl) (by kernel_rfl) (by kernel_rfl) (fun _ _ _ h => h) ?_ ?_
  rotate_left 1
  · (refine Or.inl ⟨by rfl, ?_⟩; intro w' hw'; have hq := below_via hcur hw'; have hq_e0 := Ext.trans e0 hw'; have hz_l1 := l1 _ hq_e0; (try go_simp); (try rfl); done)
  try simp only [Act.put, List.setIfInBounds_toArray, List.set_cons_zero, List.set_cons_succ]
  refine wpAnyE_take (i := 11) (v := ?_) (some 28) rfl rfl (by kernel_rfl) (by kernel_rfl) (by kernel_rfl) (fun _ _ _ h => h) ?_ ?_
  rotate_left 1
  · (refine Or.inl ⟨by rfl, ?_⟩; intro w' hw'; have hq := below_via hcur hw'; have hq_e0 := Ext.trans e0 hw'; have hz_l1 := l1 _ hq_e0; (try go_simp); (try rfl); done)
  try simp only [Act.put, List.setIfInBounds_toArray, List.set_cons_zero, List.set_cons_succ]
  refine wpAnyE_take (i := 12) (v := ?_) (some 29) rfl rfl (by kernel_rfl) (by kernel_rfl) (by kernel_rfl) (fun _ _ _ h => h) ?_ ?_
  rotate_left 1
  · (refine Or.inl ⟨by rfl, ?_⟩; intro w' hw'; have hq := below_via hcur hw'; have hq_e0 := Ext.trans e0 hw'; have hz_l1 := l1 _ hq_e0; (try go_simp); (try rfl); done)
  try simp only [Act.put, List.setIfInBounds_toArray, List.set_cons_zero, List.set_cons_succ]
  refine wpAnyE_take (i := 13) (v := ?_) (some 30) rfl rfl (by kernel_rfl) (by kernel_rfl) (by kernel_rfl) (fun _ _ _ h => h) ?_ ?_
  rotate_left 1
  · (refine Or.inl ⟨by rfl, ?_⟩; intro w' hw'; have hq := below_via hcur hw'; have hq_e0 := Ext.trans e0 hw'; have hz_l1 := l1 _ hq_e0; (refine arr_dg.ex (hO.below (Ext.trans e0 hw')) ol (.tmp 8) ?_ ?_ <;> rfl))
  try simp only [Act.put, List.setIfInBounds_toArray, List.set_cons_zero, List.set_cons_succ]
  refine wpAnyE_take (i := 14) (v := ?_) (some 31) rfl rfl (by kernel_rfl) (by kernel_rfl) (by kernel_rfl) (fun _ _ _ h => h) ?_ ?_
  rotate_left 1
  · (refine Or.inl ⟨by rfl, ?_⟩; intro w' hw'; have hq := below_via hcur hw'; have hq_e0 := Ext.trans e0 hw'; have hz_l1 := l1 _ hq_e0; (try go_simp); (try rfl); done)
  try simp only [Act.put, List.setIfInBounds_toArray, List.set_cons_zero, List.set_cons_succ]
  refine wpAnyE_take (i := 15) (v := ?_) (some 32) rfl rfl (by kernel_rfl) (by kernel_rfl) (by kernel_rfl) (fun _ _ _ h => h) ?_ ?_
  rotate_left 1
  · (refine Or.inl ⟨by rfl, ?_⟩; intro w' hw'; have hq := below_via hcur hw'; have hq_e0 := Ext.trans e0 hw'; have hz_l1 := l1 _ hq_e0; (try go_simp); (try rfl); done)
  try simp only [Act.put, List.setIfInBounds_toArray, List.set_cons_zero, List.set_cons_succ]
  refine wpAnyE_take (i := 16) (v := ?_) (some 33) rfl rfl (by kernel_rfl) (by kernel_rfl) (by kernel_rfl) (fun _ _ _ h => h) ?_ ?_
  rotate_left 1
  · (refine Or.inl ⟨by rfl, ?_⟩; intro w' hw'; have hq := below_via hcur hw'; have hq_e0 := Ext.trans e0 hw'; have hz_l1 := l1 _ hq_e0; (try go_simp); (try rfl); done)
  try simp only [Act.put, List.setIfInBounds_toArray, List.set_cons_zero, List.set_cons_succ]
  refine wpAnyE_take (i := 17) (v := ?_) (some 34) rfl rfl (by kernel_rfl) (by kernel_rfl) (by kernel_rfl) (fun _ _ _ h => h) ?_ ?_
  rotate_left 1
  · (refine Or.inl ⟨by rfl, ?_⟩; intro w' hw'; have hq := below_via hcur hw'; have hq_e0 := Ext.trans e0 hw'; have hz_l1 := l1 _ hq_e0; (try go_simp); (try rfl); done)
  try simp only [Act.put, List.setIfInBounds_toArray, List.set_cons_zero, List.set_cons_succ]
  refine wpAnyE_one (i := 18) rfl (by kernel_rfl) (by rfl) (fun K hK => ?_)
  go_simp
  (with_reducible refine (ka _ (Ext.trans b2 e0)).mono ?_); rintro e W1 ⟨rfl, hb⟩
  refine hK.out _ _ hb ?_
  replace hcur := below_via hcur hb; clear hK K
  replace e0 := Ext.trans e0 hb
  try simp only [Act.put, List.setIfInBounds_toArray, List.set_cons_zero, List.set_cons_succ]
  refine wpAnyE_take (i := 19) (v := ?_) (some 36) rfl rfl (by kernel_rfl) (by kernel_rfl) (by kernel_rfl) (fun _ _ _ h => h) ?_ ?_
  rotate_left 1
  · (refine Or.inl ⟨by rfl, ?_⟩; intro w' hw'; have hq := below_via hcur hw'; have hq_e0 := Ext.trans e0 hw'; have hz_l1 := l1 _ hq_e0; (try go_simp); (try rfl); done)
  try simp only [Act.put, List.setIfInBounds_toArray, List.set_cons_zero, List.set_cons_succ]
  refine wpAnyE_take (i := 20) (v := ?_) (some 37) rfl rfl (by kernel_rfl) (by kernel_rfl) (by kernel_rfl) (fun _ _ _ h => h) ?_ ?_
  rotate_left 1
  · (refine Or.inl ⟨by rfl, ?_⟩; intro w' hw'; have hq := below_via hcur hw'; have hq_e0 := Ext.trans e0 hw'; have hz_l1 := l1 _ hq_e0; (try go_simp); (try rfl); done)
  try simp only [Act.put, List.setIfInBounds_toArray, List.set_cons_zero, List.set_cons_succ]
  refine wpAnyE_done (by kernel_rfl) ?_ _
  have hR' := hR.below e0
  have hO' := hO.below e0
  have hH' := hH.below e0
  have z3 : Hid (w.heap.size + 3 ≤ W1.heap.size) := by have := e0.size; unfold Hid; omega
  have cH := hH'.cell.1
  clear l1 ka qe e0 hR hO hH d1 d1' d2 z2 b2
  go_wp2_with fail
  clear cH
  generalize hW2 : World.alloc (World.alloc (World.alloc (World.alloc W1 _) _) _) _ = W2
  obtain ⟨a1, a2, a3, a4, x2, z4⟩ := alloc4 hW2
  have hF2 : FindAt W2 W1.heap.size g none := a1
  have hG2 : C1 4 W2 (W1.heap.size + 1 + 1) (.bool true) := a3
  have hE2 : Env2 w W1.heap.size (W1.heap.size + 1 + 1) (w.heap.size + 1) (W1.heap.size + 1 + 1 + 1) (W1.heap.size + 1) w.heap.size g old W2 := ⟨Below.trans hcur (x2.mono hcur.size), hO'.below x2, a4, a2, hH'.below x2⟩
  have hD2 : Dis2 w W1.heap.size (W1.heap.size + 1 + 1) (w.heap.size + 1) (W1.heap.size + 1 + 1 + 1) (W1.heap.size + 1) w.heap.size := by have := z3.out; constructor <;> omega
  have hR2 := hR'.below x2
  clear hW2 a1 a2 a3 a4 x2 z4 hO' hH' hR'
  have hup := gp_any w W1.heap.size (W1.heap.size + 1 + 1) (w.heap.size + 1) (W1.heap.size + 1 + 1 + 1) (W1.heap.size + 1) w.heap.size g k hk old ol hD2 hg l.length _ l n true _ ps W2 (Nat.le_refl _) hll hn1 hn2 hz hl hp hE2 hF2 hG2
  have hok := growN_ok (k := k) (m := 1048576) (pick := firstP) ol ol firstP_mem l.length l n true ps (by omega) hz hp.2
  have hwn := hok.new
  have hwo := hok.old
  have hrl := rootX_length k l
  have hro := fun w' (h : Below w.heap.size w w') => root_any g k hk (.slice A l.length c) l w' hll hz (hl.below h) (hg.below h)
  clear hok
  generalize rootX k l = rt at *
  generalize growN k old old firstP l.length l n true ps = way at *
  replace hinc : Hid _ := hinc
  have hEk := fun w' h => hE2.but (w' := w') hD2 h
  replace hD2 : Hid _ := hD2
  clear hl hp hg hz hE2 hF2 hG2
  unfold hv at hro
  refine hup.mono ?_
  rintro e w5 ⟨rfl, f5, g5, m5⟩
  have hE5 := hEk _ m5
  clear hEk
  have hR5 := hR2.but m5 (by have := z3.out; omega) (by have := z3.out; omega)
  obtain ⟨t1, t2, x6, z6⟩ := alloc2 (w := w5) (o1 := .cells (bs zer).toArray 38 (0, 0)) (o2 := .cells (bs zer).toArray 38 (0, 0)) rfl
  have ta : RowT 38 _ w5.heap.size zer := t1
  have tb : RowT 38 _ (w5.heap.size + 1) zer := t2
  have tb' := tb.other (D := w5.heap.size) (by omega) (bs way.old).toArray
  have zH : Hid (W1.heap.size < w5.heap.size) := f5.lt
  have hE6 := hE5.ext x6
  have ta7 := (ta.setRow way.old).other (D := w5.heap.size + 1) (by omega) (bs way.new).toArray
  have tb7 := tb'.setRow way.new
  have hE7 := (hE6.row (R := w5.heap.size) (cs := (bs way.old).toArray) (by have := hE5.below.size; omega) (by have := z3.out; have := zH.out; omega) (by have := hE5.ub.lt; omega) (by have := hE5.fb.lt; omega) (by have := z3.out; have := zH.out; omega)).row (R := w5.heap.size + 1) (cs := (bs way.new).toArray) (by have := hE5.below.size; omega) (by have := z3.out; have := zH.out; omega) (by have := hE5.ub.lt; omega) (by have := hE5.fb.lt; omega) (by have := z3.out; have := zH.out; omega)
  have f7 := ((f5.below x6).row ta (bs way.old).toArray).row tb' (bs way.new).toArray
  have g7 := ((g5.below x6).row (E := w5.heap.size) (by have := g5.lt; omega) (bs way.old).toArray).row (E := w5.heap.size + 1) (by have := g5.lt; omega) (bs way.new).toArray
  have hR7 := ((hR5.below x6).row_other (D := w5.heap.size) (by have := hR5.lt; omega) (bs way.old).toArray).row_other (D := w5.heap.size + 1) (by have := hR5.lt; omega) (bs way.new).toArray
  clear t1 t2 tb hE5 f5 g5 hR5 x6 z6 m5 hR2 hE6
  go_wp2_with (first
    | ((with_reducible refine at_store ?_); refine arr_dg.storeL ta zer_length rfl hwo _ _ rfl rfl rfl ?_)
    | ((with_reducible refine at_store ?_); refine arr_dg.storeL tb' zer_length rfl hwn _ _ rfl rfl rfl ?_))
  have hHC : C1 26 _ w.heap.size (hv g) := hE7.hb
  generalize hW8 : World.setRow (World.setRow _ _ _) _ _ = W8
  have hW9 : ((w5.alloc (.cells (bs zer).toArray 38 (0, 0))).alloc (.cells (bs zer).toArray 38 (0, 0)) |>.setRow w5.heap.size (bs way.old).toArray |>.setRow (w5.heap.size + 1) (bs way.new).toArray) = W8 := by rw [← hW8]; rfl
  rw [hW9] at ta7 tb7 hE7 f7 g7 hR7 hHC
  have hS : Fnd2 w (W1.heap.size + 1) W1.heap.size (W1.heap.size + 1 + 1) w5.heap.size (w5.heap.size + 1) (w.heap.size + 1) w.heap.size g way.fits way.old way.new old W8.drew := Fnd2.ext ⟨hE7.below, hE7.fb, g7, ta7, tb7, hE7.ob, hHC⟩ (ext_drew _)
  have f8 := f7.below (ext_drew _)
  have hR8 := hR7.below (ext_drew _)
  have qe := fun w' => arr_dg.eql way.new rt hwn hrl w'
  have qo := fun w' => arr_dg.eql way.old old hwo ol w'
  clear ta tb' ta7 tb7 hE7 f7 g7 hR7 hHC hW8 hW9
  by_cases hfit : way.fits = true
  · rw [hfit] at hS hinc
    clear hfit
    by_cases hoo : way.old = old
    · rw [beq_iff_eq.2 hoo] at qo
      replace hinc : Hid (consistentL k old old firstP l n ps = if way.new = rt then way.p else none) := by unfold Hid; rw [hinc.out]; simp [hoo]
      clear hoo
      refine wp_region_S (fun w' => Fnd2 w (W1.heap.size + 1) W1.heap.size (W1.heap.size + 1 + 1) w5.heap.size (w5.heap.size + 1) (w.heap.size + 1) w.heap.size g true way.old way.new old w') (by kernel_rfl) ?_
      refine wpAnyS_take (i := 0) (v := ?_) hS (some 51) rfl rfl (by kernel_rfl) (by kernel_rfl) (by kernel_rfl) (fun _ _ _ h => h) ?_ ?_
      rotate_left 1
      · (refine Or.inl ⟨by rfl, ?_⟩; intro w' hw'; have hq1 := hw'.fb.cell.1; have hq2 := hw'.fits.cell.1; have hq3 := hw'.hb.cell.1; unfold hv at hq3; (try go_simp); (try rfl); done)
      try simp only [Act.put, List.setIfInBounds_toArray, List.set_cons_zero, List.set_cons_succ]
      refine wpAnyS_take (i := 1) (v := ?_) hS (some 52) rfl rfl (by kernel_rfl) (by kernel_rfl) (by kernel_rfl) (fun _ _ _ h => h) ?_ ?_
      rotate_left 1
      · (refine Or.inl ⟨by rfl, ?_⟩; intro w' hw'; have hq1 := hw'.fb.cell.1; have hq2 := hw'.fits.cell.1; have hq3 := hw'.hb.cell.1; unfold hv at hq3; (try go_simp); (try rfl); done)
      try simp only [Act.put, List.setIfInBounds_toArray, List.set_cons_zero, List.set_cons_succ]
      refine wpAnyS_take (i := 2) (v := ?_) hS (some 53) rfl rfl (by kernel_rfl) (by kernel_rfl) (by kernel_rfl) (fun _ _ _ h => h) ?_ ?_
      rotate_left 1
      · (refine Or.inl ⟨by rfl, ?_⟩; intro w' hw'; have hq1 := hw'.fb.cell.1; have hq2 := hw'.fits.cell.1; have hq3 := hw'.hb.cell.1; unfold hv at hq3; (try go_simp); (try rfl); done)
      try simp only [Act.put, List.setIfInBounds_toArray, List.set_cons_zero, List.set_cons_succ]
      refine wpAnyS_take (i := 3) (v := ?_) hS (some 54) rfl rfl (by kernel_rfl) (by kernel_rfl) (by kernel_rfl) (fun _ _ _ h => h) ?_ ?_
      rotate_left 1
      · (refine Or.inl ⟨by rfl, ?_⟩; intro w' hw'; have hq1 := hw'.fb.cell.1; have hq2 := hw'.fits.cell.1; have hq3 := hw'.hb.cell.1; unfold hv at hq3; (refine arr_dg.ex hw'.a hwo (.tmp 15) ?_ ?_ <;> rfl))
      try simp only [Act.put, List.setIfInBounds_toArray, List.set_cons_zero, List.set_cons_succ]
      refine wpAnyS_take (i := 4) (v := ?_) hS (some 55) rfl rfl (by kernel_rfl) (by kernel_rfl) (by kernel_rfl) (fun _ _ _ h => h) ?_ ?_
      rotate_left 1
      · (refine Or.inl ⟨by rfl, ?_⟩; intro w' hw'; have hq1 := hw'.fb.cell.1; have hq2 := hw'.fits.cell.1; have hq3 := hw'.hb.cell.1; unfold hv at hq3; (refine arr_dg.ex hw'.ob ol (.tmp 8) ?_ ?_ <;> rfl))
      try simp only [Act.put, List.setIfInBounds_toArray, List.set_cons_zero, List.set_cons_succ]
      refine wpAnyS_take (i := 5) (v := ?_) hS (some 56) rfl rfl (by kernel_rfl) (by kernel_rfl) (by kernel_rfl) (fun _ _ _ h => h) ?_ ?_
      rotate_left 1
      · (refine Or.inl ⟨by rfl, ?_⟩; intro w' hw'; have hq1 := hw'.fb.cell.1; have hq2 := hw'.fits.cell.1; have hq3 := hw'.hb.cell.1; unfold hv at hq3; (try go_simp); (try rfl); done)
      try simp only [Act.put, List.setIfInBounds_toArray, List.set_cons_zero, List.set_cons_succ]
      refine wpAnyS_take (i := 6) (v := ?_) hS (some 57) rfl rfl (by kernel_rfl) (by kernel_rfl) (by kernel_rfl) (fun _ _ _ h => h) ?_ ?_
      rotate_left 1
      · (refine Or.inl ⟨by rfl, ?_⟩; intro w' hw'; have hq1 := hw'.fb.cell.1; have hq2 := hw'.fits.cell.1; have hq3 := hw'.hb.cell.1; unfold hv at hq3; (try go_simp); (try rfl); done)
      try simp only [Act.put, List.setIfInBounds_toArray, List.set_cons_zero, List.set_cons_succ]
      refine wpAnyS_take (i := 7) (v := ?_) hS (some 58) rfl rfl (by kernel_rfl) (by kernel_rfl) (by kernel_rfl) (fun _ _ _ h => h) ?_ ?_
      rotate_left 1
      · (refine Or.inl ⟨by rfl, ?_⟩; intro w' hw'; have hq1 := hw'.fb.cell.1; have hq2 := hw'.fits.cell.1; have hq3 := hw'.hb.cell.1; unfold hv at hq3; (try go_simp); (try rfl); done)
      try simp only [Act.put, List.setIfInBounds_toArray, List.set_cons_zero, List.set_cons_succ]
      refine wpAnyS_take (i := 8) (v := ?_) hS (some 59) rfl rfl (by kernel_rfl) (by kernel_rfl) (by kernel_rfl) (fun _ _ _ h => h) ?_ ?_
      rotate_left 1
      · (refine Or.inl ⟨by rfl, ?_⟩; intro w' hw'; have hq1 := hw'.fb.cell.1; have hq2 := hw'.fits.cell.1; have hq3 := hw'.hb.cell.1; unfold hv at hq3; (refine arr_dg.ex hw'.b hwn (.tmp 16) ?_ ?_ <;> rfl))
      try simp only [Act.put, List.setIfInBounds_toArray, List.set_cons_zero, List.set_cons_succ]
      refine wpAnyS_take (i := 9) (v := ?_) hS (some 60) rfl rfl (by kernel_rfl) (by kernel_rfl) (by kernel_rfl) (fun _ _ _ h => h) ?_ ?_
      rotate_left 1
      · (refine Or.inl ⟨by rfl, ?_⟩; intro w' hw'; have hq1 := hw'.fb.cell.1; have hq2 := hw'.fits.cell.1; have hq3 := hw'.hb.cell.1; unfold hv at hq3; (try go_simp); (try rfl); done)
      try simp only [Act.put, List.setIfInBounds_toArray, List.set_cons_zero, List.set_cons_succ]
      refine wpAnyS_take (i := 10) (v := ?_) hS (some 61) rfl rfl (by kernel_rfl) (by kernel_rfl) (by kernel_rfl) (fun _ _ _ h => h) ?_ ?_
      rotate_left 1
      · (refine Or.inl ⟨by rfl, ?_⟩; intro w' hw'; have hq1 := hw'.fb.cell.1; have hq2 := hw'.fits.cell.1; have hq3 := hw'.hb.cell.1; unfold hv at hq3; (try go_simp); (try rfl); done)
      try simp only [Act.put, List.setIfInBounds_toArray, List.set_cons_zero, List.set_cons_succ]
      refine wpAnyS_one (i := 11) rfl (by kernel_rfl) (by rfl) (fun K hK => ?_)
      go_simp
      (with_reducible refine (hro _ hS.below).mono ?_); rintro e w7 ⟨rfl, b7⟩
      replace f8 := f8.below b7
      replace hR8 := hR8.below b7
      have hb := hS.ext b7
      refine hK.out _ _ hb ?_
      replace hS := hb
      clear hK K hb
      try simp only [Act.put, List.setIfInBounds_toArray, List.set_cons_zero, List.set_cons_succ]
      refine wpAnyS_take (i := 12) (v := ?_) hS (some 63) rfl rfl (by kernel_rfl) (by kernel_rfl) (by kernel_rfl) (fun _ _ _ h => h) ?_ ?_
      rotate_left 1
      · (refine Or.inl ⟨by rfl, ?_⟩; intro w' hw'; have hq1 := hw'.fb.cell.1; have hq2 := hw'.fits.cell.1; have hq3 := hw'.hb.cell.1; unfold hv at hq3; (try go_simp); (try rfl); done)
      try simp only [Act.put, List.setIfInBounds_toArray, List.set_cons_zero, List.set_cons_succ]
      refine wpAnyS_take (i := 13) (v := ?_) hS (some 64) rfl rfl (by kernel_rfl) (by kernel_rfl) (by kernel_rfl) (fun _ _ _ h => h) ?_ ?_
      rotate_left 1
      · (refine Or.inl ⟨by rfl, ?_⟩; intro w' hw'; have hq1 := hw'.fb.cell.1; have hq2 := hw'.fits.cell.1; have hq3 := hw'.hb.cell.1; unfold hv at hq3; (try go_simp); (try rfl); done)
      try simp only [Act.put, List.setIfInBounds_toArray, List.set_cons_zero, List.set_cons_succ]
      refine wpAnyS_one (i := 14) rfl (by kernel_rfl) (by rfl) (fun K hK => ?_)
      go_simp
      (with_reducible refine (found_any W1.heap.size g way.p (way.new == rt) _ f8).mono ?_); rintro e w8 ⟨v8, rfl, hp8, b8⟩
      generalize hfo : (if (way.new == rt) = true then way.p else none) = fo at *
      replace hfo : Hid _ := hfo
      have hb := hS.ext b8
      have hR9 := hR8.below b8
      obtain ⟨va, vb', rfl, s8, t8⟩ := hp8
      obtain ⟨A8, c8, rfl, _⟩ := id s8
      obtain ⟨A9, c9, rfl, _⟩ := id t8
      generalize hx1 : (fo.getD ([], [])).1 = x1 at *
      generalize hx2 : (fo.getD ([], [])).2 = x2 at *
      replace hx1 : Hid _ := hx1
      replace hx2 : Hid _ := hx2
      refine hK.out _ _ hb ?_
      replace hS := hb
      clear hK K hb
      try simp only [Act.put, List.setIfInBounds_toArray, List.set_cons_zero, List.set_cons_succ]
      refine wpAnyS_take (i := 15) (v := ?_) hS (some 66) rfl rfl (by kernel_rfl) (by kernel_rfl) (by kernel_rfl) (fun _ _ _ h => h) ?_ ?_
      rotate_left 1
      · (refine Or.inl ⟨by rfl, ?_⟩; intro w' hw'; have hq1 := hw'.fb.cell.1; have hq2 := hw'.fits.cell.1; have hq3 := hw'.hb.cell.1; unfold hv at hq3; (try go_simp); (try rfl); done)
      try simp only [Act.put, List.setIfInBounds_toArray, List.set_cons_zero, List.set_cons_succ]
      refine wpAnyS_take (i := 16) (v := ?_) hS (some 67) rfl rfl (by kernel_rfl) (by kernel_rfl) (by kernel_rfl) (fun _ _ _ h => h) ?_ ?_
      rotate_left 1
      · (refine Or.inl ⟨by rfl, ?_⟩; intro w' hw'; have hq1 := hw'.fb.cell.1; have hq2 := hw'.fits.cell.1; have hq3 := hw'.hb.cell.1; unfold hv at hq3; (try go_simp); (try rfl); done)
      try simp only [Act.put, List.setIfInBounds_toArray, List.set_cons_zero, List.set_cons_succ]
      refine wpAnyS_one (i := 17) rfl (by kernel_rfl) (by rfl) (fun K hK => ?_)
      have c0 := hR9.c0
      have hRa := hR9.set0 (.slice A8 x1.length c8)
      have hRb := hRa.set1 (.slice A9 x2.length c9)
      have c1 := hRa.c1
      go_simp
      have z3' := z3.out
      have zH' := zH.out
      have hb := (hS.cell (D := w.heap.size + 1 + 1) (j := 0) (by omega) (by omega) (by omega) (by omega) (by omega) (by omega) (by omega) (.slice A8 x1.length c8)).cell (D := w.heap.size + 1 + 1) (j := 1) (by omega) (by omega) (by omega) (by omega) (by omega) (by omega) (by omega) (.slice A9 x2.length c9)
      clear z3' zH'
      have sA := (s8.off c0.1 (fun m h => by cases h) (.slice A8 x1.length c8)).off c1.1 (fun m h => by cases h) (.slice A9 x2.length c9)
      have sB := (t8.off c0.1 (fun m h => by cases h) (.slice A8 x1.length c8)).off c1.1 (fun m h => by cases h) (.slice A9 x2.length c9)
      have hret := hRb.load rfl rfl
      have bz := hb.below
      refine hK.out _ _ hb ?_
      replace hS := hb
      clear hK K hb
      try simp only [Act.put, List.setIfInBounds_toArray, List.set_cons_zero, List.set_cons_succ]
      refine wpAnyS_take (i := 18) (v := ?_) hS (some 11) rfl rfl (by kernel_rfl) (by kernel_rfl) (by kernel_rfl) (fun _ _ _ h => h) ?_ ?_
      rotate_left 1
      · (refine Or.inl ⟨by rfl, ?_⟩; intro w' hw'; have hq1 := hw'.fb.cell.1; have hq2 := hw'.fits.cell.1; have hq3 := hw'.hb.cell.1; unfold hv at hq3; (try go_simp); (try rfl); done)
      try simp only [Act.put, List.setIfInBounds_toArray, List.set_cons_zero, List.set_cons_succ]
      refine wpAnyS_done (by kernel_rfl) ?_ _
      have hans : Hid (consistentL k old old firstP l n ps = fo) := by
        unfold Hid
        rw [hinc.out, ← hfo.out]
        by_cases hq : way.new = rt <;> simp [hq]
      clear hinc hfo
      go_wp2_with fail
      refine ret_cell2 (v := .agg #[.slice A8 x1.length c8, .slice A9 x2.length c9]) Try.results23 rfl hret rfl ?_
      rw [hans.out]
      exact ⟨_, rfl, ⟨_, _, rfl, hx1.out.symm ▸ sA, hx2.out.symm ▸ sB⟩, bz⟩
    · rw [beq_eq_false_iff_ne.2 hoo] at qo
      replace hinc : Hid (consistentL k old old firstP l n ps = none) := by unfold Hid; rw [hinc.out]; simp [hoo]
      clear hoo
      refine wp_region_S (fun w' => Fnd2 w (W1.heap.size + 1) W1.heap.size (W1.heap.size + 1 + 1) w5.heap.size (w5.heap.size + 1) (w.heap.size + 1) w.heap.size g true way.old way.new old w') (by kernel_rfl) ?_
      refine wpAnyS_take (i := 0) (v := ?_) hS (some 51) rfl rfl (by kernel_rfl) (by kernel_rfl) (by kernel_rfl) (fun _ _ _ h => h) ?_ ?_
      rotate_left 1
      · (refine Or.inl ⟨by rfl, ?_⟩; intro w' hw'; have hq1 := hw'.fb.cell.1; have hq2 := hw'.fits.cell.1; have hq3 := hw'.hb.cell.1; unfold hv at hq3; (try go_simp); (try rfl); done)
      try simp only [Act.put, List.setIfInBounds_toArray, List.set_cons_zero, List.set_cons_succ]
      refine wpAnyS_take (i := 1) (v := ?_) hS (some 52) rfl rfl (by kernel_rfl) (by kernel_rfl) (by kernel_rfl) (fun _ _ _ h => h) ?_ ?_
      rotate_left 1
      · (refine Or.inl ⟨by rfl, ?_⟩; intro w' hw'; have hq1 := hw'.fb.cell.1; have hq2 := hw'.fits.cell.1; have hq3 := hw'.hb.cell.1; unfold hv at hq3; (try go_simp); (try rfl); done)
      try simp only [Act.put, List.setIfInBounds_toArray, List.set_cons_zero, List.set_cons_succ]
      refine wpAnyS_take (i := 2) (v := ?_) hS (some 53) rfl rfl (by kernel_rfl) (by kernel_rfl) (by kernel_rfl) (fun _ _ _ h => h) ?_ ?_
      rotate_left 1
      · (refine Or.inl ⟨by rfl, ?_⟩; intro w' hw'; have hq1 := hw'.fb.cell.1; have hq2 := hw'.fits.cell.1; have hq3 := hw'.hb.cell.1; unfold hv at hq3; (try go_simp); (try rfl); done)
      try simp only [Act.put, List.setIfInBounds_toArray, List.set_cons_zero, List.set_cons_succ]
      refine wpAnyS_take (i := 3) (v := ?_) hS (some 54) rfl rfl (by kernel_rfl) (by kernel_rfl) (by kernel_rfl) (fun _ _ _ h => h) ?_ ?_
      rotate_left 1
      · (refine Or.inl ⟨by rfl, ?_⟩; intro w' hw'; have hq1 := hw'.fb.cell.1; have hq2 := hw'.fits.cell.1; have hq3 := hw'.hb.cell.1; unfold hv at hq3; (refine arr_dg.ex hw'.a hwo (.tmp 15) ?_ ?_ <;> rfl))
      try simp only [Act.put, List.setIfInBounds_toArray, List.set_cons_zero, List.set_cons_succ]
      refine wpAnyS_take (i := 4) (v := ?_) hS (some 55) rfl rfl (by kernel_rfl) (by kernel_rfl) (by kernel_rfl) (fun _ _ _ h => h) ?_ ?_
      rotate_left 1
      · (refine Or.inl ⟨by rfl, ?_⟩; intro w' hw'; have hq1 := hw'.fb.cell.1; have hq2 := hw'.fits.cell.1; have hq3 := hw'.hb.cell.1; unfold hv at hq3; (refine arr_dg.ex hw'.ob ol (.tmp 8) ?_ ?_ <;> rfl))
      try simp only [Act.put, List.setIfInBounds_toArray, List.set_cons_zero, List.set_cons_succ]
      refine wpAnyS_take (i := 5) (v := ?_) hS (some 56) rfl rfl (by kernel_rfl) (by kernel_rfl) (by kernel_rfl) (fun _ _ _ h => h) ?_ ?_
      rotate_left 1
      · (refine Or.inl ⟨by rfl, ?_⟩; intro w' hw'; have hq1 := hw'.fb.cell.1; have hq2 := hw'.fits.cell.1; have hq3 := hw'.hb.cell.1; unfold hv at hq3; (try go_simp); (try rfl); done)
      try simp only [Act.put, List.setIfInBounds_toArray, List.set_cons_zero, List.set_cons_succ]
      refine wpAnyS_take (i := 6) (v := ?_) hS (some 57) rfl rfl (by kernel_rfl) (by kernel_rfl) (by kernel_rfl) (fun _ _ _ h => h) ?_ ?_
      rotate_left 1
      · (refine Or.inl ⟨by rfl, ?_⟩; intro w' hw'; have hq1 := hw'.fb.cell.1; have hq2 := hw'.fits.cell.1; have hq3 := hw'.hb.cell.1; unfold hv at hq3; (try go_simp); (try rfl); done)
      try simp only [Act.put, List.setIfInBounds_toArray, List.set_cons_zero, List.set_cons_succ]
      refine wpAnyS_take (i := 7) (v := ?_) hS (some 58) rfl rfl (by kernel_rfl) (by kernel_rfl) (by kernel_rfl) (fun _ _ _ h => h) ?_ ?_
      rotate_left 1
      · (refine Or.inl ⟨by rfl, ?_⟩; intro w' hw'; have hq1 := hw'.fb.cell.1; have hq2 := hw'.fits.cell.1; have hq3 := hw'.hb.cell.1; unfold hv at hq3; (try go_simp); (try rfl); done)
      try simp only [Act.put, List.setIfInBounds_toArray, List.set_cons_zero, List.set_cons_succ]
      refine wpAnyS_take (i := 8) (v := undef) hS (some 59) rfl rfl (by kernel_rfl) (by kernel_rfl) (by kernel_rfl) (fun _ _ _ h => h) (Or.inr ⟨by rfl, rfl⟩) ?_
      try simp only [Act.put, List.setIfInBounds_toArray, List.set_cons_zero, List.set_cons_succ]
      refine wpAnyS_take (i := 9) (v := undef) hS (some 60) rfl rfl (by kernel_rfl) (by kernel_rfl) (by kernel_rfl) (fun _ _ _ h => h) (Or.inr ⟨by rfl, rfl⟩) ?_
      try simp only [Act.put, List.setIfInBounds_toArray, List.set_cons_zero, List.set_cons_succ]
      refine wpAnyS_take (i := 10) (v := undef) hS (some 61) rfl rfl (by kernel_rfl) (by kernel_rfl) (by kernel_rfl) (fun _ _ _ h => h) (Or.inr ⟨by rfl, rfl⟩) ?_
      try simp only [Act.put, List.setIfInBounds_toArray, List.set_cons_zero, List.set_cons_succ]
      refine wpAnyS_take (i := 11) (v := undef) hS (some 62) rfl rfl (by kernel_rfl) (by kernel_rfl) (by kernel_rfl) (fun _ _ _ h => h) (Or.inr ⟨by rfl, rfl⟩) ?_
      try simp only [Act.put, List.setIfInBounds_toArray, List.set_cons_zero, List.set_cons_succ]
      refine wpAnyS_take (i := 12) (v := undef) hS (some 63) rfl rfl (by kernel_rfl) (by kernel_rfl) (by kernel_rfl) (fun _ _ _ h => h) (Or.inr ⟨by rfl, rfl⟩) ?_
      try simp only [Act.put, List.setIfInBounds_toArray, List.set_cons_zero, List.set_cons_succ]
      refine wpAnyS_take (i := 13) (v := ?_) hS (some 64) rfl rfl (by kernel_rfl) (by kernel_rfl) (by kernel_rfl) (fun _ _ _ h => h) ?_ ?_
      rotate_left 1
      · (refine Or.inl ⟨by rfl, ?_⟩; intro w' hw'; have hq1 := hw'.fb.cell.1; have hq2 := hw'.fits.cell.1; have hq3 := hw'.hb.cell.1; unfold hv at hq3; (try go_simp); (try rfl); done)
      try simp only [Act.put, List.setIfInBounds_toArray, List.set_cons_zero, List.set_cons_succ]
      refine wpAnyS_one (i := 14) rfl (by kernel_rfl) (by rfl) (fun K hK => ?_)
      go_simp
      (with_reducible refine (found_any W1.heap.size g way.p false _ f8).mono ?_); rintro e w8 ⟨v8, rfl, hp8, b8⟩
      generalize hfo : (if false = true then way.p else none) = fo at *
      replace hfo : Hid _ := hfo
      have hb := hS.ext b8
      have hR9 := hR8.below b8
      obtain ⟨va, vb', rfl, s8, t8⟩ := hp8
      obtain ⟨A8, c8, rfl, _⟩ := id s8
      obtain ⟨A9, c9, rfl, _⟩ := id t8
      generalize hx1 : (fo.getD ([], [])).1 = x1 at *
      generalize hx2 : (fo.getD ([], [])).2 = x2 at *
      replace hx1 : Hid _ := hx1
      replace hx2 : Hid _ := hx2
      refine hK.out _ _ hb ?_
      replace hS := hb
      clear hK K hb
      try simp only [Act.put, List.setIfInBounds_toArray, List.set_cons_zero, List.set_cons_succ]
      refine wpAnyS_take (i := 15) (v := ?_) hS (some 66) rfl rfl (by kernel_rfl) (by kernel_rfl) (by kernel_rfl) (fun _ _ _ h => h) ?_ ?_
      rotate_left 1
      · (refine Or.inl ⟨by rfl, ?_⟩; intro w' hw'; have hq1 := hw'.fb.cell.1; have hq2 := hw'.fits.cell.1; have hq3 := hw'.hb.cell.1; unfold hv at hq3; (try go_simp); (try rfl); done)
      try simp only [Act.put, List.setIfInBounds_toArray, List.set_cons_zero, List.set_cons_succ]
      refine wpAnyS_take (i := 16) (v := ?_) hS (some 67) rfl rfl (by kernel_rfl) (by kernel_rfl) (by kernel_rfl) (fun _ _ _ h => h) ?_ ?_
      rotate_left 1
      · (refine Or.inl ⟨by rfl, ?_⟩; intro w' hw'; have hq1 := hw'.fb.cell.1; have hq2 := hw'.fits.cell.1; have hq3 := hw'.hb.cell.1; unfold hv at hq3; (try go_simp); (try rfl); done)
      try simp only [Act.put, List.setIfInBounds_toArray, List.set_cons_zero, List.set_cons_succ]
      refine wpAnyS_one (i := 17) rfl (by kernel_rfl) (by rfl) (fun K hK => ?_)
      have c0 := hR9.c0
      have hRa := hR9.set0 (.slice A8 x1.length c8)
      have hRb := hRa.set1 (.slice A9 x2.length c9)
      have c1 := hRa.c1
      go_simp
      have z3' := z3.out
      have zH' := zH.out
      have hb := (hS.cell (D := w.heap.size + 1 + 1) (j := 0) (by omega) (by omega) (by omega) (by omega) (by omega) (by omega) (by omega) (.slice A8 x1.length c8)).cell (D := w.heap.size + 1 + 1) (j := 1) (by omega) (by omega) (by omega) (by omega) (by omega) (by omega) (by omega) (.slice A9 x2.length c9)
      clear z3' zH'
      have sA := (s8.off c0.1 (fun m h => by cases h) (.slice A8 x1.length c8)).off c1.1 (fun m h => by cases h) (.slice A9 x2.length c9)
      have sB := (t8.off c0.1 (fun m h => by cases h) (.slice A8 x1.length c8)).off c1.1 (fun m h => by cases h) (.slice A9 x2.length c9)
      have hret := hRb.load rfl rfl
      have bz := hb.below
      refine hK.out _ _ hb ?_
      replace hS := hb
      clear hK K hb
      try simp only [Act.put, List.setIfInBounds_toArray, List.set_cons_zero, List.set_cons_succ]
      refine wpAnyS_take (i := 18) (v := ?_) hS (some 11) rfl rfl (by kernel_rfl) (by kernel_rfl) (by kernel_rfl) (fun _ _ _ h => h) ?_ ?_
      rotate_left 1
      · (refine Or.inl ⟨by rfl, ?_⟩; intro w' hw'; have hq1 := hw'.fb.cell.1; have hq2 := hw'.fits.cell.1; have hq3 := hw'.hb.cell.1; unfold hv at hq3; (try go_simp); (try rfl); done)
      try simp only [Act.put, List.setIfInBounds_toArray, List.set_cons_zero, List.set_cons_succ]
      refine wpAnyS_done (by kernel_rfl) ?_ _
      have hans : Hid (consistentL k old old firstP l n ps = fo) := by
        unfold Hid
        rw [hinc.out, ← hfo.out]
        simp
      clear hinc hfo
      go_wp2_with fail
      refine ret_cell2 (v := .agg #[.slice A8 x1.length c8, .slice A9 x2.length c9]) Try.results23 rfl hret rfl ?_
      rw [hans.out]
      exact ⟨_, rfl, ⟨_, _, rfl, hx1.out.symm ▸ sA, hx2.out.symm ▸ sB⟩, bz⟩
  · have hfit : way.fits = false := by cases h : way.fits with
      | true => exact absurd h hfit
      | false => rfl
    rw [hfit] at hS hinc
    clear hfit
    refine wp_region_S (fun w' => Fnd2 w (W1.heap.size + 1) W1.heap.size (W1.heap.size + 1 + 1) w5.heap.size (w5.heap.size + 1) (w.heap.size + 1) w.heap.size g false way.old way.new old w') (by kernel_rfl) ?_
    refine wpAnyS_take (i := 0) (v := ?_) hS (some 51) rfl rfl (by kernel_rfl) (by kernel_rfl) (by kernel_rfl) (fun _ _ _ h => h) ?_ ?_
    rotate_left 1
    · (refine Or.inl ⟨by rfl, ?_⟩; intro w' hw'; have hq1 := hw'.fb.cell.1; have hq2 := hw'.fits.cell.1; have hq3 := hw'.hb.cell.1; unfold hv at hq3; (try go_simp); (try rfl); done)
    try simp only [Act.put, List.setIfInBounds_toArray, List.set_cons_zero, List.set_cons_succ]
    refine wpAnyS_take (i := 1) (v := ?_) hS (some 52) rfl rfl (by kernel_rfl) (by kernel_rfl) (by kernel_rfl) (fun _ _ _ h => h) ?_ ?_
    rotate_left 1
    · (refine Or.inl ⟨by rfl, ?_⟩; intro w' hw'; have hq1 := hw'.fb.cell.1; have hq2 := hw'.fits.cell.1; have hq3 := hw'.hb.cell.1; unfold hv at hq3; (try go_simp); (try rfl); done)
    try simp only [Act.put, List.setIfInBounds_toArray, List.set_cons_zero, List.set_cons_succ]
    refine wpAnyS_take (i := 2) (v := ?_) hS (some 53) rfl rfl (by kernel_rfl) (by kernel_rfl) (by kernel_rfl) (fun _ _ _ h => h) ?_ ?_
    rotate_left 1
    · (refine Or.inl ⟨by rfl, ?_⟩; intro w' hw'; have hq1 := hw'.fb.cell.1; have hq2 := hw'.fits.cell.1; have hq3 := hw'.hb.cell.1; unfold hv at hq3; (try go_simp); (try rfl); done)
    try simp only [Act.put, List.setIfInBounds_toArray, List.set_cons_zero, List.set_cons_succ]
    refine wpAnyS_take (i := 3) (v := undef) hS (some 54) rfl rfl (by kernel_rfl) (by kernel_rfl) (by kernel_rfl) (fun _ _ _ h => h) (Or.inr ⟨by rfl, rfl⟩) ?_
    try simp only [Act.put, List.setIfInBounds_toArray, List.set_cons_zero, List.set_cons_succ]
    refine wpAnyS_take (i := 4) (v := undef) hS (some 55) rfl rfl (by kernel_rfl) (by kernel_rfl) (by kernel_rfl) (fun _ _ _ h => h) (Or.inr ⟨by rfl, rfl⟩) ?_
    try simp only [Act.put, List.setIfInBounds_toArray, List.set_cons_zero, List.set_cons_succ]
    refine wpAnyS_take (i := 5) (v := undef) hS (some 56) rfl rfl (by kernel_rfl) (by kernel_rfl) (by kernel_rfl) (fun _ _ _ h => h) (Or.inr ⟨by rfl, rfl⟩) ?_
    try simp only [Act.put, List.setIfInBounds_toArray, List.set_cons_zero, List.set_cons_succ]
    refine wpAnyS_take (i := 6) (v := ?_) hS (some 57) rfl rfl (by kernel_rfl) (by kernel_rfl) (by kernel_rfl) (fun _ _ _ h => h) ?_ ?_
    rotate_left 1
    · (refine Or.inl ⟨by rfl, ?_⟩; intro w' hw'; have hq1 := hw'.fb.cell.1; have hq2 := hw'.fits.cell.1; have hq3 := hw'.hb.cell.1; unfold hv at hq3; (try go_simp); (try rfl); done)
    try simp only [Act.put, List.setIfInBounds_toArray, List.set_cons_zero, List.set_cons_succ]
    refine wpAnyS_take (i := 7) (v := ?_) hS (some 58) rfl rfl (by kernel_rfl) (by kernel_rfl) (by kernel_rfl) (fun _ _ _ h => h) ?_ ?_
    rotate_left 1
    · (refine Or.inl ⟨by rfl, ?_⟩; intro w' hw'; have hq1 := hw'.fb.cell.1; have hq2 := hw'.fits.cell.1; have hq3 := hw'.hb.cell.1; unfold hv at hq3; (try go_simp); (try rfl); done)
    try simp only [Act.put, List.setIfInBounds_toArray, List.set_cons_zero, List.set_cons_succ]
    refine wpAnyS_take (i := 8) (v := undef) hS (some 59) rfl rfl (by kernel_rfl) (by kernel_rfl) (by kernel_rfl) (fun _ _ _ h => h) (Or.inr ⟨by rfl, rfl⟩) ?_
    try simp only [Act.put, List.setIfInBounds_toArray, List.set_cons_zero, List.set_cons_succ]
    refine wpAnyS_take (i := 9) (v := undef) hS (some 60) rfl rfl (by kernel_rfl) (by kernel_rfl) (by kernel_rfl) (fun _ _ _ h => h) (Or.inr ⟨by rfl, rfl⟩) ?_
    try simp only [Act.put, List.setIfInBounds_toArray, List.set_cons_zero, List.set_cons_succ]
    refine wpAnyS_take (i := 10) (v := undef) hS (some 61) rfl rfl (by kernel_rfl) (by kernel_rfl) (by kernel_rfl) (fun _ _ _ h => h) (Or.inr ⟨by rfl, rfl⟩) ?_
    try simp only [Act.put, List.setIfInBounds_toArray, List.set_cons_zero, List.set_cons_succ]
    refine wpAnyS_take (i := 11) (v := undef) hS (some 62) rfl rfl (by kernel_rfl) (by kernel_rfl) (by kernel_rfl) (fun _ _ _ h => h) (Or.inr ⟨by rfl, rfl⟩) ?_
    try simp only [Act.put, List.setIfInBounds_toArray, List.set_cons_zero, List.set_cons_succ]
    refine wpAnyS_take (i := 12) (v := undef) hS (some 63) rfl rfl (by kernel_rfl) (by kernel_rfl) (by kernel_rfl) (fun _ _ _ h => h) (Or.inr ⟨by rfl, rfl⟩) ?_
    try simp only [Act.put, List.setIfInBounds_toArray, List.set_cons_zero, List.set_cons_succ]
    refine wpAnyS_take (i := 13) (v := ?_) hS (some 64) rfl rfl (by kernel_rfl) (by kernel_rfl) (by kernel_rfl) (fun _ _ _ h => h) ?_ ?_
    rotate_left 1
    · (refine Or.inl ⟨by rfl, ?_⟩; intro w' hw'; have hq1 := hw'.fb.cell.1; have hq2 := hw'.fits.cell.1; have hq3 := hw'.hb.cell.1; unfold hv at hq3; (try go_simp); (try rfl); done)
    try simp only [Act.put, List.setIfInBounds_toArray, List.set_cons_zero, List.set_cons_succ]
    refine wpAnyS_one (i := 14) rfl (by kernel_rfl) (by rfl) (fun K hK => ?_)
    go_simp
    (with_reducible refine (found_any W1.heap.size g way.p false _ f8).mono ?_); rintro e w8 ⟨v8, rfl, hp8, b8⟩
    generalize hfo : (if false = true then way.p else none) = fo at *
    replace hfo : Hid _ := hfo
    have hb := hS.ext b8
    have hR9 := hR8.below b8
    obtain ⟨va, vb', rfl, s8, t8⟩ := hp8
    obtain ⟨A8, c8, rfl, _⟩ := id s8
    obtain ⟨A9, c9, rfl, _⟩ := id t8
    generalize hx1 : (fo.getD ([], [])).1 = x1 at *
    generalize hx2 : (fo.getD ([], [])).2 = x2 at *
    replace hx1 : Hid _ := hx1
    replace hx2 : Hid _ := hx2
    refine hK.out _ _ hb ?_
    replace hS := hb
    clear hK K hb
    try simp only [Act.put, List.setIfInBounds_toArray, List.set_cons_zero, List.set_cons_succ]
    refine wpAnyS_take (i := 15) (v := ?_) hS (some 66) rfl rfl (by kernel_rfl) (by kernel_rfl) (by kernel_rfl) (fun _ _ _ h => h) ?_ ?_
    rotate_left 1
    · (refine Or.inl ⟨by rfl, ?_⟩; intro w' hw'; have hq1 := hw'.fb.cell.1; have hq2 := hw'.fits.cell.1; have hq3 := hw'.hb.cell.1; unfold hv at hq3; (try go_simp); (try rfl); done)
    try simp only [Act.put, List.setIfInBounds_toArray, List.set_cons_zero, List.set_cons_succ]
    refine wpAnyS_take (i := 16) (v := ?_) hS (some 67) rfl rfl (by kernel_rfl) (by kernel_rfl) (by kernel_rfl) (fun _ _ _ h => h) ?_ ?_
    rotate_left 1
    · (refine Or.inl ⟨by rfl, ?_⟩; intro w' hw'; have hq1 := hw'.fb.cell.1; have hq2 := hw'.fits.cell.1; have hq3 := hw'.hb.cell.1; unfold hv at hq3; (try go_simp); (try rfl); done)
    try simp only [Act.put, List.setIfInBounds_toArray, List.set_cons_zero, List.set_cons_succ]
    refine wpAnyS_one (i := 17) rfl (by kernel_rfl) (by rfl) (fun K hK => ?_)
    have c0 := hR9.c0
    have hRa := hR9.set0 (.slice A8 x1.length c8)
    have hRb := hRa.set1 (.slice A9 x2.length c9)
    have c1 := hRa.c1
    go_simp
    have z3' := z3.out
    have zH' := zH.out
    have hb := (hS.cell (D := w.heap.size + 1 + 1) (j := 0) (by omega) (by omega) (by omega) (by omega) (by omega) (by omega) (by omega) (.slice A8 x1.length c8)).cell (D := w.heap.size + 1 + 1) (j := 1) (by omega) (by omega) (by omega) (by omega) (by omega) (by omega) (by omega) (.slice A9 x2.length c9)
    clear z3' zH'
    have sA := (s8.off c0.1 (fun m h => by cases h) (.slice A8 x1.length c8)).off c1.1 (fun m h => by cases h) (.slice A9 x2.length c9)
    have sB := (t8.off c0.1 (fun m h => by cases h) (.slice A8 x1.length c8)).off c1.1 (fun m h => by cases h) (.slice A9 x2.length c9)
    have hret := hRb.load rfl rfl
    have bz := hb.below
    refine hK.out _ _ hb ?_
    replace hS := hb
    clear hK K hb
    try simp only [Act.put, List.setIfInBounds_toArray, List.set_cons_zero, List.set_cons_succ]
    refine wpAnyS_take (i := 18) (v := ?_) hS (some 11) rfl rfl (by kernel_rfl) (by kernel_rfl) (by kernel_rfl) (fun _ _ _ h => h) ?_ ?_
    rotate_left 1
    · (refine Or.inl ⟨by rfl, ?_⟩; intro w' hw'; have hq1 := hw'.fb.cell.1; have hq2 := hw'.fits.cell.1; have hq3 := hw'.hb.cell.1; unfold hv at hq3; (try go_simp); (try rfl); done)
    try simp only [Act.put, List.setIfInBounds_toArray, List.set_cons_zero, List.set_cons_succ]
    refine wpAnyS_done (by kernel_rfl) ?_ _
    have hans : Hid (consistentL k old old firstP l n ps = fo) := by
      unfold Hid
      rw [hinc.out, ← hfo.out]
      simp
    clear hinc hfo
    go_wp2_with fail
    refine ret_cell2 (v := .agg #[.slice A8 x1.length c8, .slice A9 x2.length c9]) Try.results23 rfl hret rfl ?_
    rw [hans.out]
    exact ⟨_, rfl, ⟨_, _, rfl, hx1.out.symm ▸ sA, hx2.out.symm ▸ sB⟩, bz⟩
/-- What Consistent does. -/
theorem consistent_any (g k : Nat) (hk : k ≤ 256) (vl : Value) (l : List (List UInt8)) (m : Int) (old : List UInt8) (ol : old.length = 32) (vp : Value) (ps : List (List UInt8)) (w : World) (hm1 : -9223372036854775808 ≤ m) (hm2 : m ≤ 9223372036854775807)
    (hl : SlX w vl l) (hp : SlD w vp ps) (hg : HvAt w g k) (hll : l.length ≤ 1048576) (hz : ∀ z ∈ l, z.length ≤ 1048576) :
    Calls Try.prog 23 #[hv g, vl, .int .i64 m, dg old, vp] w fun e w' => ∃ v, e = .returned (.tuple #[v, .bool (consistentL k old old firstP l m ps).isSome]) ∧ PairAt w' v (consistentL k old old firstP l m ps) ∧ Below w.heap.size w w' := by
  by_cases hn : m < 1 ∨ (l.length : Int) < m ∨ old = rootX k (l.take m.toNat)
  · have e : consistentL k old old firstP l m ps = none := by unfold consistentL; rw [if_pos hn]
    rw [e]
    exact consistent_no g k hk vl l m old ol vp w hm1 hm2 hl hg hll hz hn
  · obtain ⟨n, rfl⟩ : ∃ n : Nat, m = n := ⟨m.toNat, by omega⟩
    have h4 : old ≠ rootX k (l.take n) := fun h => hn (Or.inr (Or.inr (by rw [Int.toNat_natCast]; exact h)))
    exact consistent_go g k hk vl l n old ol vp ps w hl hp hg (by omega) (by omega) h4 hll hz
end Go.Proofs.Ytnpbapefjbfndaa
