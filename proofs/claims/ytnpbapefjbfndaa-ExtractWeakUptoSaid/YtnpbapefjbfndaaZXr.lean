/- Ways of the reference: values, in variables, their parts (no walk). A step of the reference (walk). up of the reference: a leaf, no path (walks). -/
import Derived.Test.YtnpbapefjbfndaaZExtY
import Derived.Test.YtnpbapefjbfndaaZXa
import Derived.Deep.DeepCutAuto
set_option linter.unusedVariables false
set_option linter.unusedSimpArgs false
set_option maxRecDepth 10000
namespace Go.Proofs.Ytnpbapefjbfndaa
open Go.RowKit

theorem cons_of {α : Type} {l : List α} {n : Nat} (h : l.length = n + 1) : ∃ x t, l = x :: t ∧ t.length = n := by
  cases l with
  | nil => simp at h
  | cons x t => exact ⟨x, t, rfl, by simpa using h⟩
/-- The cells of a way. -/
def wyC (a b : List UInt8) (va vb : Value) (i f : Bool) : List Value := bs a ++ bs b ++ [va, vb, .bool i, .bool f]
def wy (a b : List UInt8) (va vb : Value) (i f : Bool) : Value := .agg (wyC a b va vb i f).toArray
theorem wy_cells (a b : List UInt8) (va vb : Value) (i f : Bool) : (wy a b va vb i f).cells = (wyC a b va vb i f).toArray := rfl
theorem wyC_length {a b : List UInt8} (ha : a.length = 32) (hb : b.length = 32) (va vb : Value) (i f : Bool) : (wyC a b va vb i f).length = 68 := by simp [wyC, bs_length, ha, hb]
abbrev nilV : Value := .slice none 0 0
/-- Block D holds a way. -/
def RowY (w : World) (D : Nat) (a b : List UInt8) (va vb : Value) (i f : Bool) : Prop := w.heap[D]? = some (.cells (wyC a b va vb i f).toArray 72 (0, 0))
theorem infoY : (Try.prog.info? 72).map (·.size) = some 68 := by kernel_rfl
theorem underY : ∃ fs, Try.prog.underlying 72 = some (.struct fs) := ⟨_, by rw [Try.underlying72]⟩
section
variable {w w' : World} {D : Nat} {a b : List UInt8} {va vb : Value} {i f : Bool}
theorem RowY.lt (h : RowY w D a b va vb i f) : D < w.heap.size := (Array.getElem?_eq_some_iff.1 h).1
theorem RowY.below (h : RowY w D a b va vb i f) (hb : Below w.heap.size w w') : RowY w' D a b va vb i f := (hb.block D h.lt).trans h
theorem RowY.ext (h : RowY w D a b va vb i f) (hb : Ext w w') : RowY w' D a b va vb i f := h.below hb
theorem RowY.load (h : RowY w D a b va vb i f) (ha : a.length = 32) (hb : b.length = 32) : (loadVar 72 ⟨D, 0, none⟩).run Try.prog w = .ok (wy a b va vb i f) w := by
  obtain ⟨fs, hu⟩ := underY
  exact run_loadVar_row (P := Try.prog) w D 72 72 (wyC a b va vb i f).toArray (0, 0) _ h hu rfl (by rw [infoY, List.size_toArray, wyC_length ha hb])
theorem RowY.ex {o : Oper} {s : Act} (h : RowY w D a b va vb i f) (ha : a.length = 32) (hb : b.length = 32) (p : Operand) (ho : o.op = .load 72 p) (hp : s.eval p = .pointer (some ⟨D, 0, none⟩)) :
    (execOp s.eval o).run Try.prog w = .ok (.value (wy a b va vb i f)) w := by
  unfold execOp
  simp only [ho, hp, Instr.loadAt, Instr.sureAddr, Sem.run_bind, Sem.run_pure, Result.andThen_ok, h.load ha hb]
theorem RowY.cell (h : RowY w D a b va vb i f) (ha : a.length = 32) (hb : b.length = 32) {j : Nat} {v : Value} (hv : (wyC a b va vb i f)[j]? = some v) : w.cell? ⟨D, j, none⟩ = some v ∧ w.frozen? ⟨D, j, none⟩ = false := by
  refine ⟨?_, frozen_of_row _ _ _ _ _ h⟩
  rw [cell_of_row _ _ _ _ _ _ h, List.getElem?_toArray, hv]
theorem wyC_old {j : Nat} (ha : a.length = 32) (hj : j < 32) : (wyC a b va vb i f)[j]? = (bs a)[j]? := by
  unfold wyC; rw [List.append_assoc, List.getElem?_append_left (by rw [bs_length]; omega)]
theorem wyC_new {j : Nat} (ha : a.length = 32) (hb : b.length = 32) (hj : j < 32) : (wyC a b va vb i f)[32 + j]? = (bs b)[j]? := by
  unfold wyC; rw [List.append_assoc, List.getElem?_append_right (by rw [bs_length]; omega), bs_length, ha, Nat.add_sub_cancel_left, List.getElem?_append_left (by rw [bs_length]; omega)]
theorem wyC_tail (ha : a.length = 32) (hb : b.length = 32) (j : Nat) : (wyC a b va vb i f)[64 + j]? = [va, vb, .bool i, .bool f][j]? := by
  unfold wyC; rw [List.getElem?_append_right (by rw [List.length_append, bs_length, bs_length]; omega), List.length_append, bs_length, bs_length, ha, hb, Nat.add_sub_cancel_left]
theorem RowY.old (h : RowY w D a b va vb i f) (ha : a.length = 32) (hb : b.length = 32) : RdB w (some ⟨D, 0, none⟩) a := Rc.of_some fun j u hj => by
  have hl : j < 32 := by have := (List.getElem?_eq_some_iff.1 hj).1; rw [bs_length] at this; omega
  rw [Addr.add_lit, Nat.zero_add]; exact (h.cell ha hb (by rw [wyC_old ha hl]; exact hj)).1
theorem RowY.new (h : RowY w D a b va vb i f) (ha : a.length = 32) (hb : b.length = 32) : RdB w (some ⟨D, 32, none⟩) b := Rc.of_some fun j u hj => by
  have hl : j < 32 := by have := (List.getElem?_eq_some_iff.1 hj).1; rw [bs_length] at this; omega
  rw [Addr.add_lit]; exact (h.cell ha hb (by rw [wyC_new ha hb hl]; exact hj)).1
theorem RowY.tail (h : RowY w D a b va vb i f) (ha : a.length = 32) (hb : b.length = 32) : (w.cell? ⟨D, 64, none⟩ = some va ∧ w.frozen? ⟨D, 64, none⟩ = false) ∧ (w.cell? ⟨D, 65, none⟩ = some vb ∧ w.frozen? ⟨D, 65, none⟩ = false) ∧ (w.cell? ⟨D, 66, none⟩ = some (.bool i) ∧ w.frozen? ⟨D, 66, none⟩ = false) ∧ (w.cell? ⟨D, 67, none⟩ = some (.bool f) ∧ w.frozen? ⟨D, 67, none⟩ = false) :=
  ⟨h.cell ha hb (wyC_tail ha hb 0), h.cell ha hb (wyC_tail ha hb 1), h.cell ha hb (wyC_tail ha hb 2), h.cell ha hb (wyC_tail ha hb 3)⟩
theorem RowY.other {E j : Nat} (h : RowY w D a b va vb i f) (hne : D ≠ E) (u : Value) : RowY (w.setCell ⟨E, j, none⟩ u) D a b va vb i f := (Below.heap_setCell _ _ _ _ hne).trans h
theorem RowY.row {E : Nat} (h : RowY w D a b va vb i f) (hne : D ≠ E) (cs : Array Value) : RowY (w.setRow E cs) D a b va vb i f := (heap_setRow_other w E D cs hne).trans h
theorem set_tail (ha : a.length = 32) (hb : b.length = 32) (j : Nat) (u : Value) : (wyC a b va vb i f).set (64 + j) u = bs a ++ bs b ++ [va, vb, .bool i, .bool f].set j u := by
  unfold wyC; rw [List.set_append_right _ _ (by rw [List.length_append, bs_length, bs_length]; omega), List.length_append, bs_length, bs_length, ha, hb, Nat.add_sub_cancel_left]
theorem RowY.set0 (h : RowY w D a b va vb i f) (ha : a.length = 32) (hb : b.length = 32) (u : Value) : RowY (w.setCell ⟨D, 64, none⟩ u) D a b u vb i f := by
  unfold RowY at h ⊢; rw [heap_setCell_same w D 64 _ _ _ h, List.setIfInBounds_toArray, show (64 : Nat) = 64 + 0 from rfl, set_tail ha hb]; rfl
theorem RowY.set1 (h : RowY w D a b va vb i f) (ha : a.length = 32) (hb : b.length = 32) (u : Value) : RowY (w.setCell ⟨D, 65, none⟩ u) D a b va u i f := by
  unfold RowY at h ⊢; rw [heap_setCell_same w D 65 _ _ _ h, List.setIfInBounds_toArray, show (65 : Nat) = 64 + 1 from rfl, set_tail ha hb]; rfl
theorem RowY.set2 (h : RowY w D a b va vb i f) (ha : a.length = 32) (hb : b.length = 32) (c : Bool) : RowY (w.setCell ⟨D, 66, none⟩ (.bool c)) D a b va vb c f := by
  unfold RowY at h ⊢; rw [heap_setCell_same w D 66 _ _ _ h, List.setIfInBounds_toArray, show (66 : Nat) = 64 + 2 from rfl, set_tail ha hb]; rfl
theorem row_setCells {t : TypeId} : ∀ (vs p q r : List Value) (w : World), q.length = vs.length → w.heap[D]? = some (.cells (p ++ q ++ r).toArray t (0, 0)) → (w.setCells D p.length vs).heap[D]? = some (.cells (p ++ vs ++ r).toArray t (0, 0))
  | [], p, q, r, w, hl, h => by
    obtain rfl := List.eq_nil_of_length_eq_zero hl
    exact h
  | v :: vs, p, q, r, w, hl, h => by
    obtain ⟨q0, q', rfl⟩ : ∃ q0 q', q = q0 :: q' := by
      cases q with
      | nil => simp at hl
      | cons x y => exact ⟨x, y, rfl⟩
    have h1 := heap_setCell_same w D p.length _ _ v h
    rw [List.setIfInBounds_toArray, List.append_assoc, List.set_append_right _ _ (Nat.le_refl _), Nat.sub_self, List.cons_append, List.set_cons_zero] at h1
    have h2 := row_setCells (t := t) vs (p ++ [v]) q' r (w.setCell ⟨D, p.length, none⟩ v) (by simpa using hl) (by rw [h1]; simp)
    rw [List.length_append, List.length_singleton] at h2
    rw [World.setCells, h2]; simp
theorem heap_setCells_other {E : Nat} : ∀ (vs : List Value) (o : Nat) (w : World), E ≠ D → (w.setCells D o vs).heap[E]? = w.heap[E]?
  | [], _, _, _ => rfl
  | v :: vs, o, w, h => by rw [World.setCells, heap_setCells_other vs (o + 1) _ h]; exact Below.heap_setCell _ _ _ _ h
theorem below_setCells {B : Nat} {x : World} : ∀ (vs : List Value) (o : Nat) (w : World), Below B x w → B ≤ D → Below B x (w.setCells D o vs)
  | [], _, _, h, _ => h
  | v :: vs, o, w, h, hB => by rw [World.setCells]; exact below_setCells vs (o + 1) _ (below_setCell h hB v) hB
theorem RowY.setNew (h : RowY w D a b va vb i f) (ha : a.length = 32) (hb : b.length = 32) {c : List UInt8} (hc : c.length = 32) : RowY (w.setCells D 32 (bs c)) D a c va vb i f := by
  have := row_setCells (D := D) (bs c) (bs a) (bs b) [va, vb, .bool i, .bool f] w (by rw [bs_length, bs_length, hb, hc]) h
  rw [bs_length, ha] at this; exact this
theorem RowY.setOld (h : RowY w D a b va vb i f) (ha : a.length = 32) (hb : b.length = 32) {c : List UInt8} (hc : c.length = 32) : RowY (w.setCells D 0 (bs c)) D c b va vb i f := by
  have := row_setCells (D := D) (bs c) [] (bs a) (bs b ++ [va, vb, .bool i, .bool f]) w (by rw [bs_length, bs_length, ha, hc]) (by rw [List.nil_append, ← List.append_assoc]; exact h)
  rw [List.length_nil, List.nil_append, ← List.append_assoc] at this; exact this
theorem RowY.there (h : RowY w D a b va vb i f) (ha : a.length = 32) (hb : b.length = 32) (o : Nat) (ho : o + 32 ≤ 64) : w.there D o 32 := fun j hj => by
  have hlt : o + j < (wyC a b va vb i f).length := by rw [wyC_length ha hb]; omega
  have hc := h.cell ha hb (j := o + j) (v := (wyC a b va vb i f)[o + j]) (by simp [hlt])
  exact ⟨by rw [hc.1]; rfl, hc.2⟩
theorem RowY.setRow (h : RowY w D a b va vb i f) (c d : List UInt8) (vc vd : Value) (i' f' : Bool) : RowY (w.setRow D (wyC c d vc vd i' f').toArray) D c d vc vd i' f' := setRow_heap w D _ _ _ _ h
theorem wyC_one (hva : va.oneCell' = true) (hvb : vb.oneCell' = true) : (wyC a b va vb i f).toArray.all (·.oneCell') = true := all_oneCell_toArray fun v hv => by
  unfold wyC at hv
  rcases List.mem_append.1 hv with hv | hv
  · rcases List.mem_append.1 hv with hv | hv
    · exact bs_one _ _ hv
    · exact bs_one _ _ hv
  · simp only [List.mem_cons, List.not_mem_nil, or_false] at hv
    rcases hv with rfl | rfl | rfl | rfl
    · exact hva
    · exact hvb
    · rfl
    · rfl
end
/-- A way is laid over another. -/
theorem wp_storeY {o : Oper} {s : Act} {w : World} {K : Act → World → Prop} {Q : Exit → Act → World → Prop} {D : Nat} {a b c d : List UInt8} {va vb vc vd : Value} {i f i' f' : Bool} (h : RowY w D a b va vb i f) (ha : a.length = 32) (hb : b.length = 32) (hc : c.length = 32) (hd : d.length = 32) (hvc : vc.oneCell' = true) (hvd : vd.oneCell' = true)
    (p y : Operand) (ho : o.op = .store 72 p y) (hp : s.eval p = .pointer (some ⟨D, 0, none⟩)) (hy : s.eval y = wy c d vc vd i' f') (hK : K (s.put o.dst undef) (w.setRow D (wyC c d vc vd i' f').toArray)) : o.wp Try.prog s w K Q :=
  wp_store_row 72 p y ho D (wyC c d vc vd i' f').toArray hp hy 72 _ h (by rw [infoY, List.size_toArray, wyC_length hc hd]) (by rw [List.size_toArray, List.size_toArray, wyC_length ha hb, wyC_length hc hd]) (wyC_one hvc hvd) hK
theorem wpl_storeY {ops : Array Oper} {rest : List Oper} {o : Oper} {s : Act} {w : World} {Q : Exit → Act → World → Prop} {D : Nat} {a b c d : List UInt8} {va vb vc vd : Value} {i f i' f' : Bool} (h : RowY w D a b va vb i f) (ha : a.length = 32) (hb : b.length = 32) (hc : c.length = 32) (hd : d.length = 32) (hvc : vc.oneCell' = true) (hvd : vd.oneCell' = true)
    (hg : o.guard = none) (p y : Operand) (ho : o.op = .store 72 p y) (hp : s.eval p = .pointer (some ⟨D, 0, none⟩)) (hy : s.eval y = wy c d vc vd i' f') (hK : wpList Try.prog ops Q rest (s.put o.dst undef) (w.setRow D (wyC c d vc vd i' f').toArray)) : wpList Try.prog ops Q (o :: rest) s w :=
  wpList_plain hg fun _ hk => wp_storeY h ha hb hc hd hvc hvd p y ho hp hy (hk _ _ hK)
/-- A way is read whole. -/
theorem wpl_loadY {ops : Array Oper} {rest : List Oper} {o : Oper} {s : Act} {w : World} {Q : Exit → Act → World → Prop} {D : Nat} {a b : List UInt8} {va vb : Value} {i f : Bool} (h : RowY w D a b va vb i f) (ha : a.length = 32) (hb : b.length = 32)
    (hg : o.guard = none) (p : Operand) (ho : o.op = .load 72 p) (hp : s.eval p = .pointer (some ⟨D, 0, none⟩)) (hK : wpList Try.prog ops Q rest (s.put o.dst (wy a b va vb i f)) w) : wpList Try.prog ops Q (o :: rest) s w :=
  wpList_plain hg fun _ hk => by
    unfold Oper.wp
    rw [h.ex ha hb p ho hp]
    exact hk _ _ hK
/-- A digest is laid into a way's part. -/
theorem wpl_storeP {ops : Array Oper} {rest : List Oper} {o : Oper} {s : Act} {w : World} {Q : Exit → Act → World → Prop} {D e : Nat} {a b c : List UInt8} {va vb : Value} {i f : Bool} (h : RowY w D a b va vb i f) (ha : a.length = 32) (hb : b.length = 32) (hc : c.length = 32) (he : e + 32 ≤ 64)
    (hg : o.guard = none) (p y : Operand) (ho : o.op = .store 38 p y) (hp : s.eval p = .pointer (some ⟨D, e, none⟩)) (hy : s.eval y = dg c) (hK : wpList Try.prog ops Q rest (s.put o.dst undef) (w.setCells D e (bs c))) : wpList Try.prog ops Q (o :: rest) s w :=
  wpList_store_mid hg 38 p y ho D e (bs c).toArray hp hy (by rw [List.size_toArray, bs_length, hc]; exact h.there ha hb e he) (by rw [List.size_toArray, bs_length, hc]; kernel_rfl) (all_oneCell_toArray (bs_one _)) hK
theorem built_fits (c : Bool) : Try.prog.built 72 [(4, .bool c)] = some (wyC zer zer nilV nilV false c).toArray := by kernel_rfl
theorem built_none : Try.prog.built 72 [] = some (wyC zer zer nilV nilV false false).toArray := by kernel_rfl
theorem built_ends {a : List UInt8} (h : a.length = 32) (c : Bool) : Try.prog.built 72 [(0, dg a), (1, dg a), (4, .bool c)] = some (wyC a a nilV nilV false c).toArray := by
  obtain ⟨x0, a0, rfl, h0⟩ := cons_of (n := 31) h
  obtain ⟨x1, a1, rfl, h1⟩ := cons_of (n := 30) h0
  obtain ⟨x2, a2, rfl, h2⟩ := cons_of (n := 29) h1
  obtain ⟨x3, a3, rfl, h3⟩ := cons_of (n := 28) h2
  obtain ⟨x4, a4, rfl, h4⟩ := cons_of (n := 27) h3
  obtain ⟨x5, a5, rfl, h5⟩ := cons_of (n := 26) h4
  obtain ⟨x6, a6, rfl, h6⟩ := cons_of (n := 25) h5
  obtain ⟨x7, a7, rfl, h7⟩ := cons_of (n := 24) h6
  obtain ⟨x8, a8, rfl, h8⟩ := cons_of (n := 23) h7
  obtain ⟨x9, a9, rfl, h9⟩ := cons_of (n := 22) h8
  obtain ⟨x10, a10, rfl, h10⟩ := cons_of (n := 21) h9
  obtain ⟨x11, a11, rfl, h11⟩ := cons_of (n := 20) h10
  obtain ⟨x12, a12, rfl, h12⟩ := cons_of (n := 19) h11
  obtain ⟨x13, a13, rfl, h13⟩ := cons_of (n := 18) h12
  obtain ⟨x14, a14, rfl, h14⟩ := cons_of (n := 17) h13
  obtain ⟨x15, a15, rfl, h15⟩ := cons_of (n := 16) h14
  obtain ⟨x16, a16, rfl, h16⟩ := cons_of (n := 15) h15
  obtain ⟨x17, a17, rfl, h17⟩ := cons_of (n := 14) h16
  obtain ⟨x18, a18, rfl, h18⟩ := cons_of (n := 13) h17
  obtain ⟨x19, a19, rfl, h19⟩ := cons_of (n := 12) h18
  obtain ⟨x20, a20, rfl, h20⟩ := cons_of (n := 11) h19
  obtain ⟨x21, a21, rfl, h21⟩ := cons_of (n := 10) h20
  obtain ⟨x22, a22, rfl, h22⟩ := cons_of (n := 9) h21
  obtain ⟨x23, a23, rfl, h23⟩ := cons_of (n := 8) h22
  obtain ⟨x24, a24, rfl, h24⟩ := cons_of (n := 7) h23
  obtain ⟨x25, a25, rfl, h25⟩ := cons_of (n := 6) h24
  obtain ⟨x26, a26, rfl, h26⟩ := cons_of (n := 5) h25
  obtain ⟨x27, a27, rfl, h27⟩ := cons_of (n := 4) h26
  obtain ⟨x28, a28, rfl, h28⟩ := cons_of (n := 3) h27
  obtain ⟨x29, a29, rfl, h29⟩ := cons_of (n := 2) h28
  obtain ⟨x30, a30, rfl, h30⟩ := cons_of (n := 1) h29
  obtain ⟨x31, a31, rfl, h31⟩ := cons_of (n := 0) h30
  obtain rfl := List.eq_nil_of_length_eq_zero h31
  kernel_rfl
end Go.Proofs.Ytnpbapefjbfndaa
set_option linter.unusedVariables false
set_option linter.unusedSimpArgs false
set_option maxRecDepth 10000
namespace Go.Proofs.Ytnpbapefjbfndaa
open Go.RowKit
attribute [local go_sem high] dg_cells guard_dg wy_cells

/-- A way as a value. -/
structure WayV (w : World) (va vb : Value) (wl : WayL) : Prop where
  lo : wl.old.length = 32
  ln : wl.new.length = 32
  a : OwB 0 w va (wl.p.getD ([], [])).1
  b : OwB 0 w vb (wl.p.getD ([], [])).2
def wayOf (wl : WayL) (va vb : Value) : Value := wy wl.old wl.new va vb wl.p.isSome wl.fits
theorem WayV.below {w w' : World} {va vb : Value} {wl : WayL} (h : WayV w va vb wl) (hb : Ext w w') : WayV w' va vb wl := ⟨h.lo, h.ln, h.a.below hb, h.b.below hb⟩
theorem sl_one' {w : World} {v : Value} {x : List UInt8} (h : SlB w v x) : v.oneCell' = true := by obtain ⟨A, c, rfl, _⟩ := h; rfl
theorem rowY_zero (w : World) (o : Obj) : RowY ((w.alloc o).alloc (.cells (wyC zer zer nilV nilV false false).toArray 72 (0, 0))) (w.heap.size + 1) zer zer nilV nilV false false := by
  have := heap_alloc_new (w.alloc o) (.cells (wyC zer zer nilV nilV false false).toArray 72 (0, 0))
  rwa [size_alloc] at this
set_option maxHeartbeats 8000000 in
theorem step_skip (k : Nat) (hk : k ≤ 256) (old new : List UInt8) (va vb : Value) (f : Bool) (vt vl : Value) (t : List UInt8) (zs : List (List UInt8)) (w : World) (lo : old.length = 32) (ln : new.length = 32) (oa : va.oneCell' = true) (ob : vb.oneCell' = true)
    (ht : SlB w vt t) (htl : t.length ≤ 1073741824) (hl : SlX w vl zs) (hzl : zs.length ≤ 1048576) (hz : ∀ z ∈ zs, z.length ≤ 1048576) :
    Calls Try.prog 53 #[.int .i64 k, wy old new va vb true f, vt, vl] w fun e w' => e = .returned (wy old (hashL k t) va vb true f) ∧ Below w.heap.size w w' := by
  obtain ⟨h1, h2, b2, z2⟩ := alloc2 (w := w) (o1 := .cells (wyC old new va vb true f).toArray 72 (0, 0)) (o2 := .cells (wyC zer zer nilV nilV false false).toArray 72 (0, 0)) rfl
  have hY : RowY _ w.heap.size old new va vb true f := h1
  have hZ : RowY _ (w.heap.size + 1) zer zer nilV nilV false false := h2
  have htx := rtext_any k hk 1048576 vl zs _ hzl (Nat.le_refl _) hz (hl.below b2)
  have hdl := hashL_length k t
  obtain ⟨A, c, rfl, _⟩ := id ht
  generalize textL k zs = x at *
  clear hl hz h1 h2
  change Calls _ _ #[_, .agg (wyC old new va vb true f).toArray, _, _] _ _
  go_enter Try.func53, Try.ntmps53
  go_wp2_with fail
  refine htx.mono ?_; rintro e w2 ⟨v2, rfl, s2, b3⟩
  obtain ⟨A2, c2, rfl, _⟩ := id s2
  have hY2 := hY.below b3
  have hZ2 := hZ.below b3
  have b4 := Ext.trans b2 b3
  have e5 := ext_alloc w2 (.cells #[.slice A t.length c, .slice A2 x.length c2] 33)
  have b5 := Ext.trans b4 e5
  have hY5 := hY2.ext e5
  have hZ5 := hZ2.ext e5
  have c66 := (hY5.tail lo ln).2.2.1.1
  have hh := rhash_any k (.slice A t.length c) t _ (ht.below b5) htl hk
  clear htx hY hZ hY2 hZ2 b2 b3 b4 e5 s2
  generalize hdd : hashL k t = hd at *
  replace hdd : Hid _ := hdd
  go_wp2_with fail
  (with_reducible refine hh.mono ?_); rintro e w6 ⟨rfl, b6⟩
  have b7 := Ext.trans b5 b6
  have hY7 := hY5.ext b6
  have hZ7 := hZ5.ext b6
  have hY8 := hY7.setNew lo ln hdl
  have hZ8 : RowY (w6.setCells w.heap.size 32 (bs hd)) (w.heap.size + 1) zer zer nilV nilV false false := (heap_setCells_other _ _ _ (by omega)).trans hZ7
  have b8 := below_setCells (bs hd) 32 w6 b7 (Nat.le_refl w.heap.size)
  have hret := (hZ8.setRow old hd va vb true f).load lo hdl
  have bz := below_setRow b8 (show w.heap.size ≤ w.heap.size + 1 by omega) (wyC old hd va vb true f).toArray
  clear hY5 hZ5 b5 hZ7
  go_wp2_with (first
    | ((with_reducible refine at_store ?_); refine wpl_storeP hY7 lo ln hdl (by decide) rfl _ _ rfl rfl rfl ?_)
    | ((with_reducible refine at_load ?_); refine wpl_loadY hY8 lo hdl rfl _ rfl rfl ?_)
    | ((with_reducible refine at_store ?_); refine wpl_storeY hZ8 zer_length zer_length lo hdl oa ob rfl _ _ rfl rfl rfl ?_))
  exact ret_cell (v := wy old hd va vb true f) Try.results53 rfl hret rfl ⟨by rw [hdd.out], bz⟩
set_option maxHeartbeats 8000000 in
theorem step_no (k : Nat) (hk : k ≤ 256) (old new : List UInt8) (va vb : Value) (f : Bool) (vt vl : Value) (t : List UInt8) (zs : List (List UInt8)) (w : World) (lo : old.length = 32) (ln : new.length = 32) (oa : va.oneCell' = true) (ob : vb.oneCell' = true)
    (ht : SlB w vt t) (htl : t.length ≤ 1073741824) (hl : SlX w vl zs) (hzl : zs.length ≤ 1048576) (hz : ∀ z ∈ zs, z.length ≤ 1048576) (hm : mayL k t (textL k zs) = false) :
    Calls Try.prog 53 #[.int .i64 k, wy old new va vb false f, vt, vl] w fun e w' => e = .returned (wy old (hashL k t) va vb false f) ∧ Below w.heap.size w w' := by
  obtain ⟨h1, h2, b2, z2⟩ := alloc2 (w := w) (o1 := .cells (wyC old new va vb false f).toArray 72 (0, 0)) (o2 := .cells (wyC zer zer nilV nilV false false).toArray 72 (0, 0)) rfl
  have hY : RowY _ w.heap.size old new va vb false f := h1
  have hZ : RowY _ (w.heap.size + 1) zer zer nilV nilV false false := h2
  have htx := rtext_any k hk 1048576 vl zs _ hzl (Nat.le_refl _) hz (hl.below b2)
  have hdl := hashL_length k t
  have lx : (textL k zs).length ≤ 1073741824 := by have := textL_length (k := k) (m := 1048576) zs (by omega) hz; omega
  obtain ⟨A, c, rfl, _⟩ := id ht
  generalize textL k zs = x at *
  clear hl hz h1 h2
  change Calls _ _ #[_, .agg (wyC old new va vb false f).toArray, _, _] _ _
  go_enter Try.func53, Try.ntmps53
  go_wp2_with fail
  refine htx.mono ?_; rintro e w2 ⟨v2, rfl, s2, b3⟩
  obtain ⟨A2, c2, rfl, _⟩ := id s2
  have hY2 := hY.below b3
  have hZ2 := hZ.below b3
  have b4 := Ext.trans b2 b3
  have e5 := ext_alloc w2 (.cells #[.slice A t.length c, .slice A2 x.length c2] 33)
  have b5 := Ext.trans b4 e5
  have hY5 := hY2.ext e5
  have hZ5 := hZ2.ext e5
  have c66 := (hY5.tail lo ln).2.2.1.1
  have km := rmay_any k (.slice A t.length c) (.slice A2 x.length c2) t x _ hk htl lx (ht.below b5) (s2.below e5)
  rw [hm] at km
  have hP5 : PR 33 _ w2.heap.size (.slice A t.length c) (.slice A2 x.length c2) := heap_alloc_new w2 (.cells #[.slice A t.length c, .slice A2 x.length c2] 33)
  have p0 := hP5.c0.1
  have p1 := hP5.c1.1
  have hh := fun w' (h : Ext w w') => rhash_any k (.slice A t.length c) t w' (ht.below h) htl hk
  clear htx hY hZ hY2 hZ2 b2 b3 b4 e5 s2 hP5
  generalize hdd : hashL k t = hd at *
  replace hdd : Hid _ := hdd
  go_wp2_with fail
  (with_reducible refine km.mono ?_); rintro e w5 ⟨rfl, bm⟩
  replace b5 := Ext.trans b5 bm
  replace hY5 := hY5.ext bm
  replace hZ5 := hZ5.ext bm
  have hh := hh _ b5
  clear p0 p1 c66
  go_wp2_with fail
  (with_reducible refine hh.mono ?_); rintro e w6 ⟨rfl, b6⟩
  have b7 := Ext.trans b5 b6
  have hY7 := hY5.ext b6
  have hZ7 := hZ5.ext b6
  have hY8 := hY7.setNew lo ln hdl
  have hZ8 : RowY (w6.setCells w.heap.size 32 (bs hd)) (w.heap.size + 1) zer zer nilV nilV false false := (heap_setCells_other _ _ _ (by omega)).trans hZ7
  have b8 := below_setCells (bs hd) 32 w6 b7 (Nat.le_refl w.heap.size)
  have hret := (hZ8.setRow old hd va vb false f).load lo hdl
  have bz := below_setRow b8 (show w.heap.size ≤ w.heap.size + 1 by omega) (wyC old hd va vb false f).toArray
  clear hY5 hZ5 b5 hZ7
  go_wp2_with (first
    | ((with_reducible refine at_store ?_); refine wpl_storeP hY7 lo ln hdl (by decide) rfl _ _ rfl rfl rfl ?_)
    | ((with_reducible refine at_load ?_); refine wpl_loadY hY8 lo hdl rfl _ rfl rfl ?_)
    | ((with_reducible refine at_store ?_); refine wpl_storeY hZ8 zer_length zer_length lo hdl oa ob rfl _ _ rfl rfl rfl ?_))
  exact ret_cell (v := wy old hd va vb false f) Try.results53 rfl hret rfl ⟨by rw [hdd.out], bz⟩
set_option maxHeartbeats 8000000 in
theorem step_yes (k : Nat) (hk : k ≤ 256) (old new : List UInt8) (va vb : Value) (f : Bool) (vt vl : Value) (t : List UInt8) (zs : List (List UInt8)) (w : World) (lo : old.length = 32) (ln : new.length = 32) (oa : va.oneCell' = true) (ob : vb.oneCell' = true)
    (ht : SlB w vt t) (htl : t.length ≤ 1073741824) (hl : SlX w vl zs) (hzl : zs.length ≤ 1048576) (hz : ∀ z ∈ zs, z.length ≤ 1048576) (hm : mayL k t (textL k zs) = true) :
    Calls Try.prog 53 #[.int .i64 k, wy old new va vb false f, vt, vl] w fun e w' => ∃ vx, e = .returned (wy old (hashL k t) vt vx true f) ∧ OwB 0 w' vx (textL k zs) ∧ Below w.heap.size w w' := by
  obtain ⟨h1, h2, b2, z2⟩ := alloc2 (w := w) (o1 := .cells (wyC old new va vb false f).toArray 72 (0, 0)) (o2 := .cells (wyC zer zer nilV nilV false false).toArray 72 (0, 0)) rfl
  have hY : RowY _ w.heap.size old new va vb false f := h1
  have hZ : RowY _ (w.heap.size + 1) zer zer nilV nilV false false := h2
  have htx := rtext_own k hk 1048576 vl zs _ hzl (Nat.le_refl _) hz (hl.below b2)
  have hdl := hashL_length k t
  have lx : (textL k zs).length ≤ 1073741824 := by have := textL_length (k := k) (m := 1048576) zs (by omega) hz; omega
  obtain ⟨A, c, rfl, _⟩ := id ht
  generalize textL k zs = x at *
  clear hl hz h1 h2
  change Calls _ _ #[_, .agg (wyC old new va vb false f).toArray, _, _] _ _
  go_enter Try.func53, Try.ntmps53
  go_wp2_with fail
  refine htx.mono ?_; rintro e w2 ⟨v2, rfl, s2, b3⟩
  obtain ⟨A2, c2, rfl, _⟩ := id s2.sl
  have hY2 := hY.below b3
  have hZ2 := hZ.below b3
  have b4 := Ext.trans b2 b3
  have e5 := ext_alloc w2 (.cells #[.slice A t.length c, .slice A2 x.length c2] 33)
  have b5 := Ext.trans b4 e5
  have hY5 := hY2.ext e5
  have hZ5 := hZ2.ext e5
  have c66 := (hY5.tail lo ln).2.2.1.1
  have km := rmay_any k (.slice A t.length c) (.slice A2 x.length c2) t x _ hk htl lx (ht.below b5) (s2.below e5).sl
  rw [hm] at km
  have hP5 : PR 33 _ w2.heap.size (.slice A t.length c) (.slice A2 x.length c2) := heap_alloc_new w2 (.cells #[.slice A t.length c, .slice A2 x.length c2] 33)
  have p0 := hP5.c0.1
  have p1 := hP5.c1.1
  have hh := fun w' (h : Ext w w') => rhash_any k (.slice A t.length c) t w' (ht.below h) htl hk
  have s5 := s2.below e5
  clear htx hY hZ hY2 hZ2 b2 b3 b4 e5 s2
  generalize hdd : hashL k t = hd at *
  replace hdd : Hid _ := hdd
  go_wp2_with fail
  (with_reducible refine km.mono ?_); rintro e w5 ⟨rfl, bm⟩
  replace b5 := Ext.trans b5 bm
  replace hY5 := hY5.ext bm
  replace hZ5 := hZ5.ext bm
  replace s5 := s5.below bm
  replace hP5 := hP5.below bm
  have p0 := hP5.c0.1
  have p1 := hP5.c1.1
  have hl0 := hP5.rload rfl rfl
  have c64 := (hY5.tail lo ln).1
  have hYa := hY5.set0 lo ln (.slice A t.length c)
  have c65 := (hYa.tail lo ln).2.1
  have hYb := hYa.set1 lo ln (.slice A2 x.length c2)
  have c66' := (hYb.tail lo ln).2.2.1
  have hYc := hYb.set2 lo ln true
  have s6 := ((s5.cell_apart (j := 64) hY5 (by decide) (.slice A t.length c)).cell_apart (j := 65) hYa (by decide) (.slice A2 x.length c2)).cell_apart (j := 66) hYb (by decide) (.bool true)
  have hZc := ((hZ5.other (E := w.heap.size) (j := 64) (by omega) (.slice A t.length c)).other (E := w.heap.size) (j := 65) (by omega) (.slice A2 x.length c2)).other (E := w.heap.size) (j := 66) (by omega) (.bool true)
  have bc := below_setCell (k := 66) (below_setCell (k := 65) (below_setCell (k := 64) b5 (Nat.le_refl w.heap.size) (.slice A t.length c)) (Nat.le_refl w.heap.size) (.slice A2 x.length c2)) (Nat.le_refl w.heap.size) (.bool true)
  have hh := hh _ bc
  clear c66 hYa hYb hY5 hZ5 b5 s5
  go_wp2_with fail
  (with_reducible refine hh.mono ?_); rintro e w6 ⟨rfl, b6⟩
  have s7 := s6.below b6
  have b7 := Below.trans bc (b6.mono bc.size)
  have hY7 := hYc.ext b6
  have hZ7 := hZc.ext b6
  have hY8 := hY7.setNew lo ln hdl
  have hZ8 : RowY (w6.setCells w.heap.size 32 (bs hd)) (w.heap.size + 1) zer zer nilV nilV false false := (heap_setCells_other _ _ _ (by omega)).trans hZ7
  have b8 := below_setCells (bs hd) 32 w6 b7 (Nat.le_refl w.heap.size)
  have hret := (hZ8.setRow old hd (.slice A t.length c) (.slice A2 x.length c2) true f).load lo hdl
  have bz := below_setRow b8 (show w.heap.size ≤ w.heap.size + 1 by omega) (wyC old hd (.slice A t.length c) (.slice A2 x.length c2) true f).toArray
  have s8 := s7.apart (w' := w6.setCells w.heap.size 32 (bs hd)) hY7 (by decide) (fun b hb => heap_setCells_other _ _ _ hb)
  have s9 := s8.row_apart hZ8 (by decide) (wyC old hd (.slice A t.length c) (.slice A2 x.length c2) true f).toArray
  clear hYc hZc bc hZ7 s6 s7 s8
  go_wp2_with (first
    | ((with_reducible refine at_store ?_); refine wpl_storeP hY7 lo ln hdl (by decide) rfl _ _ rfl rfl rfl ?_)
    | ((with_reducible refine at_load ?_); refine wpl_loadY hY8 lo hdl rfl _ rfl rfl ?_)
    | ((with_reducible refine at_store ?_); refine wpl_storeY hZ8 zer_length zer_length lo hdl rfl rfl rfl _ _ rfl rfl rfl ?_))
  exact ret_cell (v := wy old hd (.slice A t.length c) (.slice A2 x.length c2) true f) Try.results53 rfl hret rfl ⟨_, by rw [hdd.out], s9, bz⟩
/-- What a step does. -/
theorem step_any (k : Nat) (hk : k ≤ 256) (wl : WayL) (va vb : Value) (vt vl : Value) (t : List UInt8) (zs : List (List UInt8)) (w : World) (hw : WayV w va vb wl)
    (ht : OwB 0 w vt t) (htl : t.length ≤ 1073741824) (hl : SlX w vl zs) (hzl : zs.length ≤ 1048576) (hz : ∀ z ∈ zs, z.length ≤ 1048576) :
    Calls Try.prog 53 #[.int .i64 k, wayOf wl va vb, vt, vl] w fun e w' => ∃ va' vb', e = .returned (wayOf (stepL k wl t zs) va' vb') ∧ WayV w' va' vb' (stepL k wl t zs) ∧ Below w.heap.size w w' := by
  unfold wayOf
  have oa := sl_one' hw.a.sl
  have ob := sl_one' hw.b.sl
  cases hp : wl.p with
  | some q =>
    have e : (stepL k wl t zs).p = some q := by unfold stepL metL; rw [hp]
    have e2 : (stepL k wl t zs).p = wl.p := e.trans hp.symm
    refine (step_skip k hk wl.old wl.new va vb wl.fits vt vl t zs w hw.lo hw.ln oa ob ht.sl htl hl hzl hz).mono fun e' w' ⟨h1, h2⟩ => ⟨va, vb, ?_, ⟨hw.lo, hashL_length _ _, by rw [e2]; exact hw.a.below h2, by rw [e2]; exact hw.b.below h2⟩, h2⟩
    rw [e, h1]; rfl
  | none =>
    cases hm : mayL k t (textL k zs) with
    | false =>
      have e : (stepL k wl t zs).p = none := by unfold stepL metL; rw [hp]; simp [hm]
      have e2 : (stepL k wl t zs).p = wl.p := e.trans hp.symm
      refine (step_no k hk wl.old wl.new va vb wl.fits vt vl t zs w hw.lo hw.ln oa ob ht.sl htl hl hzl hz hm).mono fun e' w' ⟨h1, h2⟩ => ⟨va, vb, ?_, ⟨hw.lo, hashL_length _ _, by rw [e2]; exact hw.a.below h2, by rw [e2]; exact hw.b.below h2⟩, h2⟩
      rw [e, h1]; rfl
    | true =>
      have e : (stepL k wl t zs).p = some (t, textL k zs) := by unfold stepL metL; rw [hp]; simp [hm]
      refine (step_yes k hk wl.old wl.new va vb wl.fits vt vl t zs w hw.lo hw.ln oa ob ht.sl htl hl hzl hz hm).mono fun e' w' ⟨vx, h1, h2, h3⟩ => ⟨vt, vx, ?_, ⟨hw.lo, hashL_length _ _, by rw [e]; exact ht.below h3, by rw [e]; exact h2⟩, h3⟩
      rw [e, h1]; rfl
end Go.Proofs.Ytnpbapefjbfndaa
set_option linter.unusedVariables false
set_option linter.unusedSimpArgs false
set_option maxRecDepth 10000
namespace Go.Proofs.Ytnpbapefjbfndaa
open Go.RowKit
attribute [local go_sem high] dg_cells guard_dg wy_cells rs_l rs_lh rs_lhm rs_h rs_hm rs_all

theorem at_build {P : Program} {ops : Array Oper} {Q : Exit → Act → World → Prop} {rest : List Oper} {a : Act} {w : World} {d : Option Tmp} {t ty : TypeId} {x : Array (Nat × Operand)} {p : String} {af : Array Edge} {g : Option (Nat × Bool)}
    (h : wpList P ops Q ({ dst := d, op := .build t x, type := ty, pos := p, after := af, guard := g } :: rest) a w) : wpList P ops Q ({ dst := d, op := .build t x, type := ty, pos := p, after := af, guard := g } :: rest) a w := h
section
variable {ops : Array Oper} {rest : List Oper} {o : Oper} {s : Act} {w : World} {Q : Exit → Act → World → Prop}
theorem wpl_build1 (x : Tmp) (c : Bool) (hg : o.guard = none) (ho : o.op = .build 72 #[(4, .tmp x)]) (hx : s.eval (.tmp x) = .bool c) (hK : wpList Try.prog ops Q rest (s.put o.dst (wy zer zer nilV nilV false c)) w) : wpList Try.prog ops Q (o :: rest) s w := by
  have hb : Try.prog.built 72 ((#[(4, .tmp x)] : Array (Nat × Operand)).map fun (i, x) => (i, s.eval x)).toList = some (wyC zer zer nilV nilV false c).toArray := by
    have e : ((#[(4, .tmp x)] : Array (Nat × Operand)).map fun (i, x) => (i, s.eval x)).toList = [(4, .bool c)] := by simp [hx]
    rw [e]; exact built_fits c
  refine wpList_build hg 72 _ ho (by rw [hb]; rfl) ?_
  rw [hb]; exact hK
theorem wpl_build0 (hg : o.guard = none) (ho : o.op = .build 72 #[]) (hK : wpList Try.prog ops Q rest (s.put o.dst (wy zer zer nilV nilV false false)) w) : wpList Try.prog ops Q (o :: rest) s w := by
  have hb : Try.prog.built 72 ((#[] : Array (Nat × Operand)).map fun (i, x) => (i, s.eval x)).toList = some (wyC zer zer nilV nilV false false).toArray := by
    have e : ((#[] : Array (Nat × Operand)).map fun (i, x) => (i, s.eval x)).toList = [] := by simp
    rw [e]; exact built_none
  refine wpList_build hg 72 _ ho (by rw [hb]; rfl) ?_
  rw [hb]; exact hK
theorem wpl_build3 {d : List UInt8} (hd : d.length = 32) (x y z : Tmp) (c : Bool) (hg : o.guard = none) (ho : o.op = .build 72 #[(0, .tmp x), (1, .tmp y), (4, .tmp z)]) (hx : s.eval (.tmp x) = dg d) (hy : s.eval (.tmp y) = dg d) (hz : s.eval (.tmp z) = .bool c)
    (hK : wpList Try.prog ops Q rest (s.put o.dst (wy d d nilV nilV false c)) w) : wpList Try.prog ops Q (o :: rest) s w := by
  have hb : Try.prog.built 72 ((#[(0, .tmp x), (1, .tmp y), (4, .tmp z)] : Array (Nat × Operand)).map fun (i, x) => (i, s.eval x)).toList = some (wyC d d nilV nilV false c).toArray := by
    have e : ((#[(0, .tmp x), (1, .tmp y), (4, .tmp z)] : Array (Nat × Operand)).map fun (i, x) => (i, s.eval x)).toList = [(0, dg d), (1, dg d), (4, .bool c)] := by simp [hx, hy, hz]
    rw [e]; exact built_ends hd c
  refine wpList_build hg 72 _ ho (by rw [hb]; rfl) ?_
  rw [hb]; exact hK
end
theorem rowY_new (w : World) : RowY (w.alloc (.cells (wyC zer zer nilV nilV false false).toArray 72 (0, 0))) w.heap.size zer zer nilV nilV false false := heap_alloc_new _ _
theorem WayV.none (w : World) {a b : List UInt8} (ha : a.length = 32) (hb : b.length = 32) (f : Bool) : WayV w nilV nilV ⟨a, b, none, f⟩ := ⟨ha, hb, OwB.nil _ _, OwB.nil _ _⟩
theorem WayV.row {w : World} {va vb : Value} {wl : WayL} {D : Nat} {cs : Array Value} {t : TypeId} {fr : Nat × Nat} (h : WayV w va vb wl) (hD : w.heap[D]? = some (.cells cs t fr)) (ht : t ≠ 5) (ys : Array Value) : WayV (w.setRow D ys) va vb wl := ⟨h.lo, h.ln, h.a.row_apart hD ht ys, h.b.row_apart hD ht ys⟩
set_option maxHeartbeats 8000000 in
theorem rup_leaf (k : Nat) (hk : k ≤ 256) (vl : Value) (x : List UInt8) (i : Int) (vb : Value) (b : List UInt8) (vp : Value) (ps : List (List UInt8)) (w : World) (hl : SlX w vl [x]) (xl : x.length ≤ 1048576) (hb : SlB w vb b) (bl : b.length ≤ 1048576) (hp : SlD w vp ps) :
    Calls Try.prog 41 #[.int .i64 k, vl, .int .i64 i, vb, vp] w fun e w' => ∃ va vb, e = .returned (wayOf (stepL k ⟨zer, zer, none, decide (ps.length = 0)⟩ (0 :: b) [x]) va vb) ∧ WayV w' va vb (stepL k ⟨zer, zer, none, decide (ps.length = 0)⟩ (0 :: b) [x]) ∧ Below w.heap.size w w' := by
  have hR := rowY_new w
  have b0 := ext_alloc w (.cells (wyC zer zer nilV nilV false false).toArray 72 (0, 0))
  obtain ⟨A, c, hvl, hc, hcm⟩ := hl.len
  rw [List.length_singleton] at hvl
  subst hvl
  obtain ⟨Ap, cp, rfl, hcp, hcpm, _⟩ := id hp.1
  have hq : ((ps.length : Int) == 0) = decide (ps.length = 0) := by rw [Bool.eq_iff_iff]; simp
  have hlf := rleaf_own vb b _ (hb.below b0) (by omega)
  generalize decide (ps.length = 0) = d at *
  go_enter Try.func41, Try.ntmps41
  go_wp2_with ((with_reducible refine at_build ?_); refine wpl_build1 _ d rfl rfl rfl ?_)
  refine hlf.mono ?_; rintro e w2 ⟨v2, rfl, s2, b2⟩
  have x2 := Ext.trans b0 b2
  have hR2 := hR.ext b2
  have hst := step_any k hk ⟨zer, zer, none, d⟩ nilV nilV v2 (.slice A 1 c) (0 :: b) [x] w2 (WayV.none w2 zer_length zer_length d) s2 (by simp; omega) (hl.below x2) (by simp) (by simpa using xl)
  clear hlf b0 b2 hR
  go_wp2_with fail
  refine hst.mono ?_; rintro e w3 ⟨va, vb', rfl, hv3, b3⟩
  have x3 := Ext.trans x2 b3
  have hR3 := hR2.ext b3
  have bz := below_setRow x3 (Nat.le_refl w.heap.size) (wyC (stepL k ⟨zer, zer, none, d⟩ (0 :: b) [x]).old (stepL k ⟨zer, zer, none, d⟩ (0 :: b) [x]).new va vb' (stepL k ⟨zer, zer, none, d⟩ (0 :: b) [x]).p.isSome (stepL k ⟨zer, zer, none, d⟩ (0 :: b) [x]).fits).toArray
  have hv4 := hv3.row hR3 (by decide) (wyC (stepL k ⟨zer, zer, none, d⟩ (0 :: b) [x]).old (stepL k ⟨zer, zer, none, d⟩ (0 :: b) [x]).new va vb' (stepL k ⟨zer, zer, none, d⟩ (0 :: b) [x]).p.isSome (stepL k ⟨zer, zer, none, d⟩ (0 :: b) [x]).fits).toArray
  have hret := (hR3.setRow (stepL k ⟨zer, zer, none, d⟩ (0 :: b) [x]).old (stepL k ⟨zer, zer, none, d⟩ (0 :: b) [x]).new va vb' (stepL k ⟨zer, zer, none, d⟩ (0 :: b) [x]).p.isSome (stepL k ⟨zer, zer, none, d⟩ (0 :: b) [x]).fits).load hv3.lo hv3.ln
  generalize hwl : stepL k ⟨zer, zer, none, d⟩ (0 :: b) [x] = wl at *
  replace hwl : Hid _ := hwl
  unfold wayOf
  go_wp2_with ((with_reducible refine at_store ?_); refine wpl_storeY hR3 zer_length zer_length hv3.lo hv3.ln (sl_one' hv3.a.sl) (sl_one' hv3.b.sl) rfl _ _ rfl rfl rfl ?_)
  exact ret_cell (v := wayOf wl va vb') Try.results41 rfl hret rfl (by rw [hwl.out]; exact ⟨_, _, rfl, hv4, bz⟩)
set_option maxHeartbeats 8000000 in
theorem rup_none (k : Nat) (vl : Value) (l : List (List UInt8)) (i : Int) (vb : Value) (vp : Value) (ps : List (List UInt8)) (w : World) (hl : SlX w vl l) (h2 : l.length ≠ 1) (hp : SlD w vp ps) (h0 : ps.length = 0) :
    Calls Try.prog 41 #[.int .i64 k, vl, .int .i64 i, vb, vp] w fun e w' => ∃ va vb, e = .returned (wayOf ⟨zer, zer, none, false⟩ va vb) ∧ WayV w' va vb ⟨zer, zer, none, false⟩ ∧ Below w.heap.size w w' := by
  have hR := rowY_new w
  have b0 := ext_alloc w (.cells (wyC zer zer nilV nilV false false).toArray 72 (0, 0))
  obtain ⟨A, c, rfl, hc, hcm⟩ := hl.len
  obtain ⟨Ap, cp, rfl, hcp, hcpm, _⟩ := id hp.1
  have hq : ((l.length : Int) == 1) = false := by rw [beq_eq_false_iff_ne]; omega
  have bz := below_setRow b0 (Nat.le_refl w.heap.size) (wyC zer zer nilV nilV false false).toArray
  have hret := (hR.setRow zer zer nilV nilV false false).load zer_length zer_length
  rw [h0] at *
  go_enter Try.func41, Try.ntmps41
  go_wp2_with (first
    | ((with_reducible refine at_build ?_); refine wpl_build0 rfl rfl ?_)
    | ((with_reducible refine at_store ?_); refine wpl_storeY hR zer_length zer_length zer_length zer_length rfl rfl rfl _ _ rfl rfl rfl ?_))
  exact ret_cell (v := wayOf ⟨zer, zer, none, false⟩ nilV nilV) Try.results41 rfl hret rfl ⟨_, _, rfl, WayV.none _ zer_length zer_length false, bz⟩
/-- A new variable for a way, if it has been made. -/
def NewY (lo : Nat) (w : World) (x : Option Nat) : Prop := ∀ B, x = some B → lo < B ∧ RowY w B zer zer nilV nilV false false
/-- While the call of the part and its variable come up. -/
structure CurR (w0 : World) (R L : Nat) (lst : List UInt8) (st : Option (WayL × Value × Value)) (x : Option Nat) (w' : World) : Prop where
  below : Below w0.heap.size w0 w'
  rR : RowY w' R zer zer nilV nilV false false
  rL : RowT 38 w' L lst
  lR : R < L
  l0 : w0.heap.size ≤ R
  wv : ∀ wl va vb, st = some (wl, va, vb) → WayV w' va vb wl
  ax : NewY L w' x
section
variable {w0 w w' w'' : World} {R L : Nat} {lst : List UInt8} {st : Option (WayL × Value × Value)} {x : Option Nat}
theorem CurR.ext (h : CurR w0 R L lst st x w') (hb : Ext w' w'') : CurR w0 R L lst st x w'' :=
  ⟨Below.trans h.below (hb.mono h.below.size), h.rR.ext hb, h.rL.below hb, h.lR, h.l0, fun wl va vb e => (h.wv wl va vb e).below hb, fun B e => ⟨(h.ax B e).1, (h.ax B e).2.ext hb⟩⟩
theorem CurR.alloc (h : CurR w0 R L lst st none w') : CurR w0 R L lst st (some w'.heap.size) (w'.alloc (.cells (wyC zer zer nilV nilV false false).toArray 72 (0, 0))) :=
  let k := h.ext (ext_alloc w' _)
  ⟨k.below, k.rR, k.rL, h.lR, h.l0, k.wv, fun B e => by cases e; exact ⟨h.rL.lt, rowY_new w'⟩⟩
theorem CurR.call (h : CurR w0 R L lst none x w') {wl : WayL} {va vb : Value} (hb : Ext w' w'') (hv : WayV w'' va vb wl) : CurR w0 R L lst (some (wl, va, vb)) x w'' :=
  let k := h.ext hb
  ⟨k.below, k.rR, k.rL, h.lR, h.l0, fun wl' va' vb' e => by cases e; exact hv, k.ax⟩
/-- When the part's way lies in its variable. -/
structure CutR (w0 : World) (R L D : Nat) (lst : List UInt8) (wl : WayL) (va vb : Value) (w' : World) : Prop where
  below : Below w0.heap.size w0 w'
  rR : RowY w' R zer zer nilV nilV false false
  rL : RowT 38 w' L lst
  rD : RowY w' D wl.old wl.new va vb wl.p.isSome wl.fits
  lR : R < L
  l0 : w0.heap.size ≤ R
  lD : L < D
  wv : WayV w' va vb wl
theorem CurR.cut {D : Nat} {wl : WayL} {va vb : Value} (h : CurR w0 R L lst (some (wl, va, vb)) (some D) w') : CutR w0 R L D lst wl va vb (w'.setRow D (wyC wl.old wl.new va vb wl.p.isSome wl.fits).toArray) := by
  obtain ⟨l1, r1⟩ := h.ax D rfl
  have lR := h.lR
  have l0 := h.l0
  exact ⟨below_setRow h.below (by omega) _, h.rR.row (by omega) _, h.rL.other (by omega) _, r1.setRow _ _ _ _ _ _, h.lR, h.l0, l1, (h.wv _ _ _ rfl).row r1 (by decide) _⟩
theorem CutR.ext {D : Nat} {wl : WayL} {va vb : Value} (h : CutR w0 R L D lst wl va vb w') (hb : Ext w' w'') : CutR w0 R L D lst wl va vb w'' :=
  ⟨Below.trans h.below (hb.mono h.below.size), h.rR.ext hb, h.rL.below hb, h.rD.ext hb, h.lR, h.l0, h.lD, h.wv.below hb⟩
end
theorem zeroY (w : World) : (zeroValue 72).run Try.prog w = .ok (.agg (wyC zer zer nilV nilV false false).toArray) w :=
  (zero_of_info (P := Try.prog) (t := 72) (v := .agg (wyC zer zer nilV nilV false false).toArray) (n := 68) (by kernel_rfl)).1 w
end Go.Proofs.Ytnpbapefjbfndaa
