/- Digests as values, in variables, held against each other; blocks of bytes. Arrays of bytes of any length as values, in variables, held against each other. Bytes copied into an array that lies in memory; a new row as a slice. Slices of digests, as lists. Slices of digests that are the call's own; slices of such slices. -/
import Derived.Test.YtnpbapefjbfndaaZShaS
import Derived.Test.YtnpbapefjbfndaaZXa
import Derived.Stop.BytesEq
import Derived.Great.BuildSlice
set_option linter.unusedVariables false
set_option linter.unusedSimpArgs false
set_option maxRecDepth 10000
namespace Go.Proofs.Ytnpbapefjbfndaa
open Go.RowKit

theorem dg_cells (d : List UInt8) : (dg d).cells = (bs d).toArray := rfl
theorem Row32.range {w : World} {B : Nat} {xs : List UInt8} (h : Row32 w B xs) : w.rangeAt B 0 (bs xs) := fun j v hj => by
  have hlt : j < xs.length := by have := (List.getElem?_eq_some_iff.1 hj).1; rwa [bs_length] at this
  rw [Nat.zero_add, (h.cell hlt).1, ← hj, bs_get _ hlt]
theorem info32' {xs : List UInt8} (hl : xs.length = 32) : (Try.prog.info? 38).map (·.size) = some (bs xs).length := by rw [bs_length, hl]; kernel_rfl
/-- A block of bytes, of the type t. -/
def RowT (t : TypeId) (w : World) (B : Nat) (xs : List UInt8) : Prop := w.heap[B]? = some (.cells (bs xs).toArray t (0, 0))
theorem RowT.below {t : TypeId} {w w' : World} {B : Nat} {xs : List UInt8} (h : RowT t w B xs) (hb : Below w.heap.size w w') : RowT t w' B xs := (hb.block B (Array.getElem?_eq_some_iff.1 h).1).trans h
theorem RowT.lt {t : TypeId} {w : World} {B : Nat} {xs : List UInt8} (h : RowT t w B xs) : B < w.heap.size := (Array.getElem?_eq_some_iff.1 h).1
theorem RowT.cell {t : TypeId} {w : World} {B : Nat} {xs : List UInt8} (h : RowT t w B xs) {j : Nat} (hj : j < xs.length) : w.cell? ⟨B, j, none⟩ = some (.int .u8 (c8 (xs.getD j 0))) ∧ w.frozen? ⟨B, j, none⟩ = false := by
  refine ⟨?_, frozen_of_row _ _ _ _ _ h⟩
  rw [cell_of_row _ _ _ _ _ _ h, List.getElem?_toArray, bs_get _ hj]
theorem RowT.set {t : TypeId} {w : World} {B : Nat} {xs : List UInt8} (h : RowT t w B xs) (j : Nat) (x : UInt8) : RowT t (w.setCell ⟨B, j, none⟩ (.int .u8 (c8 x))) B (xs.set j x) := by
  unfold RowT at h ⊢
  rw [heap_setCell_same w B j _ _ _ h]
  simp [bs, List.map_set]
theorem RowT.sl {t : TypeId} {w : World} {B : Nat} {xs : List UInt8} (h : RowT t w B xs) (hl : xs.length ≤ 1099511627776) : SlB w (.slice (some ⟨B, 0, none⟩) xs.length xs.length) xs := by
  refine ⟨_, _, rfl, Nat.le_refl _, by omega, by simp, Rc.of_some fun j u hj => ?_⟩
  rw [Addr.add_lit, Nat.zero_add, cell_of_row _ _ _ _ _ _ h]
  simpa using hj
theorem RowT.range {t : TypeId} {w : World} {B : Nat} {xs : List UInt8} (h : RowT t w B xs) : w.rangeAt B 0 (bs xs) := fun j v hj => by
  have hlt : j < xs.length := by have := (List.getElem?_eq_some_iff.1 hj).1; rwa [bs_length] at this
  rw [Nat.zero_add, (h.cell hlt).1, ← hj, bs_get _ hlt]
theorem ix_dg (w : World) (xs : List UInt8) (k : Nat) (hk : k < 32) (hl : xs.length = 32) : (Instr.index 38 (.agg (bs xs).toArray) (.int .i64 (k : Int))).run Try.prog w = .ok (.int .u8 (c8 (xs.getD k 0))) w := by
  have h1 : (0 : Int) ≤ (k : Int) := by omega
  have h2 : (k : Int) < 32 := by omega
  have h3 : (bs xs)[k]? = some (.int .u8 (c8 (xs.getD k 0))) := bs_get _ (by omega)
  simp [Instr.index, go_sem, h1, h2, asIntOf, part]
  rw [if_pos hk, h3]
  simp
theorem Row32.at {w : World} {B : Nat} {d : List UInt8} (h : Row32 w B d) {k : Nat} {x : UInt8} (hk : k < d.length) (hx : d.getD k 0 = x) : w.cell? ⟨B, k, none⟩ = some (.int .u8 (c8 x)) := hx ▸ (h.cell hk).1

/-- Two results, the first lies in memory, whole. -/
theorem ret_cell2 {P : Program} {fn : Func} {R : Ending → World → Prop} {a : Act} {w : World} {x y : Tmp} {t : TypeId} {ad : Addr} {v : Value} (hr : fn.results = #[.cell x t, .tmp y]) (hx : a.tmps.getD x undef = .pointer (some ad))
    (hl : (loadVar t ad).run P w = .ok v w) (hd : a.defers = []) (h : R (.returned (.tuple #[v, a.tmps.getD y undef])) w) : bodyPost P fn R .ret a w := by
  refine ⟨hd, .tuple #[v, a.tmps.getD y undef], ?_, h⟩
  unfold results
  rw [hr]
  rw [Array.getD_eq_getD_getElem?] at hx
  simp [hx, asAddr, Sem.run_bind, hl]
@[go_sem, simp] theorem str_size (xs : List UInt8) : (str xs).size = xs.length := by simp [str, ByteArray.size]
theorem ix_str (w : World) (s : List UInt8) (k : Nat) (h : k < s.length) : (Instr.index 9 (.string (str s)) (.int .i64 (k : Int))).run Try.prog w = .ok (.int .u8 (c8 (s.getD k 0))) w := by
  have h1 : (0 : Int) ≤ (k : Int) := by omega
  have h2 : (k : Int) < s.length := by omega
  have h5 : (str s)[k]? = some (s.getD k 0) := by
    rw [getElem?_pos (str s) k (by rw [str_size]; exact h)]
    congr 1
    show s.toArray[k] = _
    simp [h]
  simp [Instr.index, go_sem, h1, h2, asIntOf]
  rw [h5]; rfl

theorem alloc2 {w W2 : World} {o1 o2 : Obj} (hW : (w.alloc o1).alloc o2 = W2) : W2.heap[w.heap.size]? = some o1 ∧ W2.heap[w.heap.size + 1]? = some o2 ∧ Below w.heap.size w W2 ∧ W2.heap.size = w.heap.size + 2 := by
  subst hW
  refine ⟨?_, ?_, Ext.trans (ext_alloc _ _) (ext_alloc _ _), by rw [size_alloc, size_alloc]⟩
  · rw [Below.heap_alloc _ _ _ (by rw [size_alloc]; omega)]; exact heap_alloc_new _ _
  · have := heap_alloc_new (w.alloc o1) o2
    rwa [size_alloc] at this
def zer : List UInt8 := List.replicate 32 0
theorem zer_length : zer.length = 32 := rfl

theorem bs_cell (xs : List UInt8) : bs xs = xs.map Extern.Stop.cell := rfl
theorem eq_dg (xs ys : List UInt8) (hx : xs.length = 32) (hy : ys.length = 32) (w : World) : (Op.equalIn 10000 38 (dg xs) (dg ys)).run Try.prog w = .ok (xs == ys) w := by
  unfold dg; rw [bs_cell, bs_cell]
  exact run_equalIn_bytes w 9998 38 5 32 (by kernel_rfl) (by kernel_rfl) (fun w => by simp [go_sem]) xs ys hx hy
theorem eql_dg (xs ys : List UInt8) (hx : xs.length = 32) (hy : ys.length = 32) (w : World) : (binOp .eql 38 (dg xs) (dg ys)).run Try.prog w = .ok (.bool (xs == ys)) w := by
  have h := eq_dg xs ys hx hy w
  unfold dg at *; rw [run_eql_struct, h]; rfl
theorem neq_dg (xs ys : List UInt8) (hx : xs.length = 32) (hy : ys.length = 32) (w : World) : (binOp .neq 38 (dg xs) (dg ys)).run Try.prog w = .ok (.bool (!(xs == ys))) w := by
  have h := eq_dg xs ys hx hy w
  unfold dg at *; rw [run_neq_struct, h]; rfl
theorem eql_dg_self (xs : List UInt8) (hx : xs.length = 32) (w : World) : (binOp .eql 38 (dg xs) (dg xs)).run Try.prog w = .ok (.bool true) w := by
  rw [eql_dg xs xs hx hx]; simp
theorem neq_dg_self (xs : List UInt8) (hx : xs.length = 32) (w : World) : (binOp .neq 38 (dg xs) (dg xs)).run Try.prog w = .ok (.bool false) w := by
  rw [neq_dg xs xs hx hx]; simp
theorem guard_dg (op : BinOp) (x y : Operand) (xs ys : List UInt8) (w : World) : (eqGuard op 38 x y (dg xs) (dg ys)).run Try.prog w = .ok () w := by
  unfold dg; exact run_eqGuard_agg w op _ _ _ _ _ (by kernel_rfl)

/-- A digest is laid into a new variable. -/
theorem wp_store_dg {o : Oper} {a : Act} {w : World} {K : Act → World → Prop} {Q : Exit → Act → World → Prop} {x : List UInt8} (hx : x.length = 32) (p y : Operand) (ho : o.op = .store 38 p y) (hp : a.eval p = .pointer (some ⟨w.heap.size, 0, none⟩)) (hy : a.eval y = dg x)
    (h : K (a.put o.dst undef) (w.alloc (.cells (bs x).toArray 38 (0, 0)))) : o.wp Try.prog a (w.alloc (.cells (bs zer).toArray 38 (0, 0))) K Q := by
  refine wp_store_row 38 p y ho w.heap.size (bs x).toArray hp hy 38 _ (heap_alloc_new _ _) (info32 hx) (by simp [bs_length, hx, zer_length]) (all_oneCell_toArray (bs_one _)) ?_
  have e : (w.alloc (.cells (bs zer).toArray 38 (0, 0))).setRow w.heap.size (bs x).toArray = w.alloc (.cells (bs x).toArray 38 (0, 0)) := by
    simp only [World.alloc, World.setRow]
    congr 1
    apply Array.ext'
    simp [Array.modify, Array.modifyM]
  rw [e]; exact h
theorem wpl_store_dg {ops : Array Oper} {rest : List Oper} {o : Oper} {a : Act} {w : World} {Q : Exit → Act → World → Prop} {x : List UInt8} (hg : o.guard = none) (hx : x.length = 32) (p y : Operand) (ho : o.op = .store 38 p y) (hp : a.eval p = .pointer (some ⟨w.heap.size, 0, none⟩)) (hy : a.eval y = dg x)
    (h : wpList Try.prog ops Q rest (a.put o.dst undef) (w.alloc (.cells (bs x).toArray 38 (0, 0)))) : wpList Try.prog ops Q (o :: rest) a (w.alloc (.cells (bs zer).toArray 38 (0, 0))) :=
  wpList_plain hg fun _ hK => wp_store_dg hx p y ho hp hy (hK _ _ h)
/-- A digest is read whole. -/
theorem wpl_load_dg {ops : Array Oper} {rest : List Oper} {o : Oper} {a : Act} {w : World} {Q : Exit → Act → World → Prop} {x : List UInt8} {B : Nat} (hB : Row32 w B x) (hg : o.guard = none) (hx : x.length = 32) (p : Operand) (ho : o.op = .load 38 p) (hp : a.eval p = .pointer (some ⟨B, 0, none⟩))
    (h : wpList Try.prog ops Q rest (a.put o.dst (dg x)) w) : wpList Try.prog ops Q (o :: rest) a w :=
  wpList_load_mid hg 38 _ ho B 0 hp _ _ hB.range Try.underlying38 rfl (info32' hx) h
theorem wpl_load_dg' {ops : Array Oper} {rest : List Oper} {o : Oper} {a : Act} {w : World} {Q : Exit → Act → World → Prop} {x : List UInt8} {B : Nat} (hB : Row32 w B x) (hw : Region.wanted o (yielded ops a.tmps) = true) (hx : x.length = 32) (p : Operand) (ho : o.op = .load 38 p) (hp : a.eval p = .pointer (some ⟨B, 0, none⟩))
    (h : wpList Try.prog ops Q rest (a.put o.dst (dg x)) w) : wpList Try.prog ops Q (o :: rest) a w :=
  wpList_step fun K hK => by
    rw [if_pos hw]
    exact wp_load_mid 38 _ ho B 0 hp _ _ hB.range Try.underlying38 rfl (info32' hx) (hK _ _ h)
theorem ex_load_dg {o : Oper} {a : Act} {w : World} {x : List UInt8} {B : Nat} (hB : Row32 w B x) (hx : x.length = 32) (p : Operand) (ho : o.op = .load 38 p) (hp : a.eval p = .pointer (some ⟨B, 0, none⟩)) :
    (execOp a.eval o).run Try.prog w = .ok (.value (dg x)) w := by
  unfold execOp
  simp only [ho, hp, Instr.loadAt, Instr.sureAddr, Sem.run_bind, Sem.run_pure, Result.andThen_ok, load32 hB hx]
end Go.Proofs.Ytnpbapefjbfndaa
set_option linter.unusedVariables false
set_option linter.unusedSimpArgs false
set_option maxRecDepth 10000
namespace Go.Proofs.Ytnpbapefjbfndaa
open Go.RowKit

/-- t is the type of arrays of n bytes. -/
structure Arr8 (t : TypeId) (n : Nat) : Prop where
  hu : Try.prog.underlying t = some (.array n 5)
  hi : (Try.prog.info? t).map (·.size) = some n
  hg : Try.prog.eqGuardType Try.prog.depth t = false

theorem setRow_alloc {t : TypeId} (w : World) (old new : Array Value) : (w.alloc (.cells old t (0, 0))).setRow w.heap.size new = w.alloc (.cells new t (0, 0)) := by
  simp only [World.alloc, World.setRow]
  congr 1
  apply Array.ext'
  simp [Array.modify, Array.modifyM]

section
variable {t : TypeId} {n : Nat} (T : Arr8 t n)
include T
theorem Arr8.info {xs : List UInt8} (hl : xs.length = n) : (Try.prog.info? t).map (·.size) = some (bs xs).length := by rw [bs_length, hl]; exact T.hi
theorem Arr8.infoA {xs : List UInt8} (hl : xs.length = n) : (Try.prog.info? t).map (·.size) = some (bs xs).toArray.size := by rw [List.size_toArray]; exact T.info hl
theorem Arr8.loadVar {w : World} {D : Nat} {xs : List UInt8} (h : RowT t w D xs) (hl : xs.length = n) : (loadVar t ⟨D, 0, none⟩).run Try.prog w = .ok (dg xs) w :=
  run_loadVar_row (P := Try.prog) w D t t (bs xs).toArray (0, 0) _ h T.hu rfl (T.infoA hl)
theorem Arr8.eq (xs ys : List UInt8) (hx : xs.length = n) (hy : ys.length = n) (w : World) : (Op.equalIn 10000 t (dg xs) (dg ys)).run Try.prog w = .ok (xs == ys) w := by
  unfold dg; rw [bs_cell, bs_cell]
  exact run_equalIn_bytes w 9998 t 5 n T.hu (by kernel_rfl) (fun w => by simp [go_sem]) xs ys hx hy
theorem Arr8.eql (xs ys : List UInt8) (hx : xs.length = n) (hy : ys.length = n) (w : World) : (binOp .eql t (dg xs) (dg ys)).run Try.prog w = .ok (.bool (xs == ys)) w := by
  have h := T.eq xs ys hx hy w
  unfold dg at *; rw [run_eql_struct, h]; rfl
theorem Arr8.neq (xs ys : List UInt8) (hx : xs.length = n) (hy : ys.length = n) (w : World) : (binOp .neq t (dg xs) (dg ys)).run Try.prog w = .ok (.bool (!(xs == ys))) w := by
  have h := T.eq xs ys hx hy w
  unfold dg at *; rw [run_neq_struct, h]; rfl
theorem Arr8.eqlSelf (xs : List UInt8) (hx : xs.length = n) (w : World) : (binOp .eql t (dg xs) (dg xs)).run Try.prog w = .ok (.bool true) w := by
  rw [T.eql xs xs hx hx]; simp
theorem Arr8.neqSelf (xs : List UInt8) (hx : xs.length = n) (w : World) : (binOp .neq t (dg xs) (dg xs)).run Try.prog w = .ok (.bool false) w := by
  rw [T.neq xs xs hx hx]; simp
theorem Arr8.guard (op : BinOp) (x y : Operand) (xs ys : List UInt8) (w : World) : (eqGuard op t x y (dg xs) (dg ys)).run Try.prog w = .ok () w := by
  unfold dg; exact run_eqGuard_agg w op _ _ _ _ _ T.hg

/-- An array is laid into a new variable. -/
theorem Arr8.store_new {o : Oper} {a : Act} {w : World} {K : Act → World → Prop} {Q : Exit → Act → World → Prop} {x z : List UInt8} (hz : z.length = n) (hx : x.length = n) (p y : Operand) (ho : o.op = .store t p y) (hp : a.eval p = .pointer (some ⟨w.heap.size, 0, none⟩)) (hy : a.eval y = dg x)
    (h : K (a.put o.dst undef) (w.alloc (.cells (bs x).toArray t (0, 0)))) : o.wp Try.prog a (w.alloc (.cells (bs z).toArray t (0, 0))) K Q := by
  refine wp_store_row t p y ho w.heap.size (bs x).toArray hp hy t _ (heap_alloc_new _ _) (T.infoA hx) (by simp [bs_length, hx, hz]) (all_oneCell_toArray (bs_one _)) ?_
  rw [setRow_alloc]; exact h
theorem Arr8.store_newL {ops : Array Oper} {rest : List Oper} {o : Oper} {a : Act} {w : World} {Q : Exit → Act → World → Prop} {x z : List UInt8} (hz : z.length = n) (hg : o.guard = none) (hx : x.length = n) (p y : Operand) (ho : o.op = .store t p y) (hp : a.eval p = .pointer (some ⟨w.heap.size, 0, none⟩)) (hy : a.eval y = dg x)
    (h : wpList Try.prog ops Q rest (a.put o.dst undef) (w.alloc (.cells (bs x).toArray t (0, 0)))) : wpList Try.prog ops Q (o :: rest) a (w.alloc (.cells (bs z).toArray t (0, 0))) :=
  wpList_plain hg fun _ hK => T.store_new hz hx p y ho hp hy (hK _ _ h)
/-- An array is laid over another. -/
theorem Arr8.store {o : Oper} {a : Act} {w : World} {K : Act → World → Prop} {Q : Exit → Act → World → Prop} {B : Nat} {x z : List UInt8} (hB : RowT t w B z) (hz : z.length = n) (hx : x.length = n) (p y : Operand) (ho : o.op = .store t p y) (hp : a.eval p = .pointer (some ⟨B, 0, none⟩)) (hy : a.eval y = dg x)
    (h : K (a.put o.dst undef) (w.setRow B (bs x).toArray)) : o.wp Try.prog a w K Q :=
  wp_store_row t p y ho B (bs x).toArray hp hy t _ hB (T.infoA hx) (by simp [bs_length, hx, hz]) (all_oneCell_toArray (bs_one _)) h
theorem Arr8.storeL {ops : Array Oper} {rest : List Oper} {o : Oper} {a : Act} {w : World} {Q : Exit → Act → World → Prop} {B : Nat} {x z : List UInt8} (hB : RowT t w B z) (hz : z.length = n) (hg : o.guard = none) (hx : x.length = n) (p y : Operand) (ho : o.op = .store t p y) (hp : a.eval p = .pointer (some ⟨B, 0, none⟩)) (hy : a.eval y = dg x)
    (h : wpList Try.prog ops Q rest (a.put o.dst undef) (w.setRow B (bs x).toArray)) : wpList Try.prog ops Q (o :: rest) a w :=
  wpList_plain hg fun _ hK => T.store hB hz hx p y ho hp hy (hK _ _ h)
/-- An array is read whole. -/
theorem Arr8.loadL {ops : Array Oper} {rest : List Oper} {o : Oper} {a : Act} {w : World} {Q : Exit → Act → World → Prop} {x : List UInt8} {B : Nat} (hB : RowT t w B x) (hw : Region.wanted o (yielded ops a.tmps) = true) (hx : x.length = n) (p : Operand) (ho : o.op = .load t p) (hp : a.eval p = .pointer (some ⟨B, 0, none⟩))
    (h : wpList Try.prog ops Q rest (a.put o.dst (dg x)) w) : wpList Try.prog ops Q (o :: rest) a w :=
  wpList_step fun K hK => by
    rw [if_pos hw]
    exact wp_load_mid t _ ho B 0 hp _ _ hB.range T.hu rfl (T.info hx) (hK _ _ h)
theorem Arr8.loadAt {w : World} {ad : Addr} {xs : List UInt8} (h : RdB w (some ad) xs) (hl : xs.length = n) : (Go.loadVar t ad).run Try.prog w = .ok (dg xs) w := by
  have hlc : (loadCells ad (bs xs).length).run Try.prog w = .ok (bs xs).toArray w := run_loadCells_list (P := Try.prog) w ad (bs xs) h.some_
  have hi := T.info hl
  cases hq : Try.prog.info? t with
  | none => simp [hq] at hi
  | some i =>
    have hs : i.size = (bs xs).length := by simpa [hq] using hi
    have hagg : (isAgg t).run Try.prog w = .ok true w := by
      unfold isAgg
      rw [Sem.run_bind, run_underlying T.hu w]
      rfl
    simp [Go.loadVar, Sem.run_bind, hagg, sizeOf, typeInfo, hq, hs, hlc, dg]
theorem Arr8.loadAtL {ops : Array Oper} {rest : List Oper} {o : Oper} {a : Act} {w : World} {Q : Exit → Act → World → Prop} {x : List UInt8} {ad : Addr} (hB : RdB w (some ad) x) (hw : Region.wanted o (yielded ops a.tmps) = true) (hx : x.length = n) (p : Operand) (ho : o.op = .load t p) (hp : a.eval p = .pointer (some ad))
    (h : wpList Try.prog ops Q rest (a.put o.dst (dg x)) w) : wpList Try.prog ops Q (o :: rest) a w :=
  wpList_step fun K hK => by
    rw [if_pos hw]
    unfold Oper.wp execOp
    simp only [ho, hp, Instr.loadAt, Instr.sureAddr, Sem.run_bind, Sem.run_pure, Result.andThen_ok, T.loadAt hB hx]
    exact hK _ _ h
theorem Arr8.ex {o : Oper} {a : Act} {w : World} {x : List UInt8} {B : Nat} (hB : RowT t w B x) (hx : x.length = n) (p : Operand) (ho : o.op = .load t p) (hp : a.eval p = .pointer (some ⟨B, 0, none⟩)) :
    (execOp a.eval o).run Try.prog w = .ok (.value (dg x)) w := by
  unfold execOp
  simp only [ho, hp, Instr.loadAt, Instr.sureAddr, Sem.run_bind, Sem.run_pure, Result.andThen_ok, T.loadVar hB hx]
end
theorem rc_lit (w : World) (xs : List UInt8) (t : TypeId) (fr : Nat × Nat) : Rc (w.alloc (.cells (bs xs).toArray t fr)) (some ⟨w.heap.size, 0, none⟩) (bs xs) := by
  refine Rc.of_some fun j u hj => ?_
  rw [Addr.add_lit, Nat.zero_add, cell_of_row _ _ _ _ _ _ (heap_alloc_new w _)]
  simpa using hj
theorem arr_dg : Arr8 38 32 := ⟨by kernel_rfl, by kernel_rfl, by kernel_rfl⟩
theorem RowT.setRow {t : TypeId} {w : World} {B : Nat} {xs : List UInt8} (h : RowT t w B xs) (ys : List UInt8) : RowT t (w.setRow B (bs ys).toArray) B ys := setRow_heap w B _ _ _ _ h
theorem RowT.other {t : TypeId} {w : World} {B D : Nat} {xs : List UInt8} (h : RowT t w B xs) (hne : B ≠ D) (cs : Array Value) : RowT t (w.setRow D cs) B xs := (heap_setRow_other w D B cs hne).trans h
end Go.Proofs.Ytnpbapefjbfndaa
set_option linter.unusedVariables false
set_option linter.unusedSimpArgs false
set_option maxRecDepth 10000
namespace Go.Proofs.Ytnpbapefjbfndaa
open Go.RowKit

theorem sl_new (w : World) (cs : List Value) (t : TypeId) (n : Nat) (hn : cs.length = n) (hm : n ≤ 1099511627776) : Sl (w.alloc (.cells cs.toArray t)) (.slice (some ⟨w.heap.size, 0, none⟩) n n) n cs :=
  ⟨_, _, rfl, Nat.le_refl _, by omega, by simp, rc_new _ _ _⟩
/-- Bytes copied into an array that lies in memory. -/
theorem copy_into {t : TypeId} {w : World} {B : Nat} {zs us : List UInt8} (h : RowT t w B zs) (off n m : Nat) {ad : Addr} {c cap : Nat} (hu : RdB w (some ad) us) (hm : m = us.length) (hn : n = zs.length - off) (ho : off + us.length ≤ zs.length) (hc : n ≤ cap) :
    (Builtin.copy_ #[23, 23] 3 #[.slice (some ⟨B, off, none⟩) n cap, .slice (some ad) m c]).run Try.prog w = .ok (.int .i64 (m : Int)) (w.setRow B (bs (put zs off us)).toArray) := by
  subst hm hn
  have := run_copy_row (P := Try.prog) w 23 23 3 5 B off (zs.length - off) cap ad us.length c (bs zs).toArray t (bs us)
    Try.underlying23 (by kernel_rfl) h (by rw [bs_length]; exact (Nat.min_eq_left (by omega)).symm) hu.some_ (by rw [bs_length, List.size_toArray, bs_length]; omega) (bs_one _)
  rw [this, bs_length]
  have e : (bs (put zs off us)).toArray = (((bs zs).toArray.toList.take off) ++ bs us ++ ((bs zs).toArray.toList.drop (off + us.length))).toArray := by
    unfold put; rw [bs_append, bs_append, bs_take, bs_drop]
  rw [e]; rfl
theorem own_one (w : World) (x : UInt8) (B : Nat) (hB : B ≤ w.heap.size) : OwB B (w.alloc (.cells #[.int .u8 (c8 x)] 5)) (.slice (some ⟨w.heap.size, 0, none⟩) 1 1) [x] :=
  World.ownsRow_lit (base := B) (e := 5) (size := 1) w #[.int .u8 (c8 x)] 1 hB (by decide) rfl

end Go.Proofs.Ytnpbapefjbfndaa
set_option linter.unusedVariables false
set_option linter.unusedSimpArgs false
namespace Go.Proofs.Ytnpbapefjbfndaa
open Go.RowKit

/-- Each is a digest. -/
def All32 (ds : List (List UInt8)) : Prop := ∀ d ∈ ds, d.length = 32
theorem All32.take {ds : List (List UInt8)} (h : All32 ds) (k : Nat) : All32 (ds.take k) := fun d hd => h d (List.mem_of_mem_take hd)
theorem All32.drop {ds : List (List UInt8)} (h : All32 ds) (k : Nat) : All32 (ds.drop k) := fun d hd => h d (List.mem_of_mem_drop hd)
theorem All32.append {ds es : List (List UInt8)} (h : All32 ds) (k : All32 es) : All32 (ds ++ es) := fun d hd => (List.mem_append.1 hd).elim (h d) (k d)
theorem All32.flat {ds : List (List UInt8)} (h : All32 ds) : ds.flatten.length = ds.length * 32 := by
  induction ds with
  | nil => rfl
  | cons d r ih =>
    rw [List.flatten_cons, List.length_append, ih (fun x hx => h x (by simp [hx])), h d (by simp), List.length_cons]; omega
theorem flat_drop : ∀ (l : Nat) (ds : List (List UInt8)), All32 ds → ds.flatten.drop (l * 32) = (ds.drop l).flatten
  | 0, ds, _ => by simp
  | l + 1, [], _ => by simp
  | l + 1, d :: r, h => by
    have hd : d.length = 32 := h d (by simp)
    rw [List.flatten_cons, List.drop_succ_cons, ← flat_drop l r (fun x hx => h x (by simp [hx])), List.drop_append, List.drop_eq_nil_of_le (by omega), List.nil_append]
    congr 1; omega
theorem flat_take : ∀ (l : Nat) (ds : List (List UInt8)), All32 ds → ds.flatten.take (l * 32) = (ds.take l).flatten
  | 0, ds, _ => by simp
  | l + 1, [], _ => by simp
  | l + 1, d :: r, h => by
    have hd : d.length = 32 := h d (by simp)
    rw [List.flatten_cons, List.take_succ_cons, List.flatten_cons, ← flat_take l r (fun x hx => h x (by simp [hx])), List.take_append, List.take_of_length_le (by omega)]
    congr 2; omega
/-- The slice reads as these digests. -/
def SlD (w : World) (v : Value) (ds : List (List UInt8)) : Prop := Sl w v ds.length (bs ds.flatten) ∧ All32 ds
theorem SlD.below {w w' : World} {v : Value} {ds : List (List UInt8)} (h : SlD w v ds) (hb : Below w.heap.size w w') : SlD w' v ds := ⟨h.1.below hb, h.2⟩
theorem slD_nil (w : World) : SlD w (.slice none 0 0) [] := ⟨sl_nil w, fun d hd => by cases hd⟩
theorem SlD.slice {w : World} {A : Option Addr} {n c : Nat} {ds : List (List UInt8)} (h : SlD w (.slice A n c) ds) (l k : Nat) (hl : l ≤ k) (hk : k ≤ ds.length) :
    SlD w (.slice (slA A l c 32) (k - l) (c - l)) ((ds.drop l).take (k - l)) := by
  obtain ⟨h1, h2⟩ := h
  have hn : n = ds.length := by obtain ⟨A', c', e, _⟩ := h1; injection e
  subst hn
  have := sl_slice (s := 32) h1 (by rw [bs_length, h2.flat]) l k hl hk
  rw [bs_drop, bs_take, flat_drop _ _ h2, flat_take _ _ (h2.drop l)] at this
  refine ⟨?_, (h2.drop l).take _⟩
  rw [List.length_take, List.length_drop, Nat.min_eq_left (by omega)]
  exact this
/-- A digest of the slice. -/
theorem SlD.get {w : World} {A : Option Addr} {n c i : Nat} {ds : List (List UInt8)} (h : SlD w (.slice A n c) ds) (hi : i < ds.length) : ∃ ad, A = some ad ∧ RdB w (some (ad.add (i * 32))) (ds.getD i []) := by
  obtain ⟨h1, h2⟩ := h
  obtain ⟨A', c', e, _, _, hA, hr⟩ := h1
  injection e with e1 e2 e3
  subst e1
  have hf := h2.flat
  cases A with
  | none =>
    have := hr.none_
    have hl : (bs ds.flatten).length = 0 := by rw [this]; rfl
    rw [bs_length, hf] at hl; omega
  | some ad =>
    refine ⟨ad, rfl, ?_⟩
    have hd := hr.drop (i * 32)
    have ht := hd.take 32
    have e : ((bs ds.flatten).drop (i * 32)).take 32 = bs (ds.getD i []) := by
      rw [bs_drop, bs_take, flat_drop _ _ h2]
      have : ds.drop i = ds.getD i [] :: ds.drop (i + 1) := by rw [List.drop_eq_getElem_cons hi]; simp [hi]
      rw [this, List.flatten_cons]
      have hl : (ds.getD i []).length = 32 := by
        apply h2; simp [hi]
      rw [List.take_append_of_le_length (by omega), List.take_of_length_le (by omega)]
    rw [e] at ht; exact ht
theorem SlD.len32 {w : World} {v : Value} {ds : List (List UInt8)} (h : SlD w v ds) {i : Nat} (hi : i < ds.length) : (ds.getD i []).length = 32 := by apply h.2; simp [hi]
end Go.Proofs.Ytnpbapefjbfndaa
set_option linter.unusedVariables false
set_option linter.unusedSimpArgs false
namespace Go.Proofs.Ytnpbapefjbfndaa
open Go.RowKit

theorem infoD : (Try.prog.info? 38).map (fun i => (i.zero, i.size, i.bytes)) = some (some (dg zer), 32, 32) := by kernel_rfl
/-- An own slice of these digests. -/
def OwD (B : Nat) (w : World) (v : Value) (ds : List (List UInt8)) : Prop := w.ownsRow B 38 32 v ds.length (bs ds.flatten) ∧ All32 ds
theorem OwD.sl {B : Nat} {w : World} {v : Value} {ds : List (List UInt8)} (h : OwD B w v ds) : SlD w v ds := ⟨sl_of_own h.1, h.2⟩
theorem OwD.below {B : Nat} {w w' : World} {v : Value} {ds : List (List UInt8)} (h : OwD B w v ds) (hb : Below w.heap.size w w') : OwD B w' v ds := ⟨own_below h.1 hb, h.2⟩
theorem OwD.nil (B : Nat) (w : World) : OwD B w (.slice none 0 0) [] := ⟨World.ownsRow_nil _ _ _ _, fun d hd => by cases hd⟩
theorem OwD.mono {B B' : Nat} {w : World} {v : Value} {ds : List (List UInt8)} (h : OwD B w v ds) (hb : B' ≤ B) : OwD B' w v ds := ⟨own_weaken h.1 hb, h.2⟩
theorem OwD.lt {B : Nat} {w : World} {v : Value} {ds : List (List UInt8)} (h : OwD B w v ds) : ∀ k, v.ownBlock = some k → B ≤ k ∧ k < w.heap.size := World.ownsRow.lt h.1
theorem OwD.kept {B : Nat} {w w' : World} {v : Value} {ds : List (List UInt8)} {row : Option Nat} (h : OwD B w v ds) (hg : w.grownBy w' row) (hne : v.ownBlock = none ∨ v.ownBlock ≠ row) : OwD B w' v ds := ⟨World.ownsRow.kept h.1 hg hne, h.2⟩
theorem OwD.some {B : Nat} {w : World} {v : Value} {ds : List (List UInt8)} (h : OwD B w v ds) (hn : 0 < ds.length) : ∃ g c, v = .slice (some ⟨g, 0, none⟩) ds.length c ∧ B ≤ g ∧ g < w.heap.size := by
  rcases h.1.2 with ⟨e, h0⟩ | ⟨g, cap, cur, e, hb, hg, _⟩
  · omega
  · exact ⟨g, cap, e, hb, (Array.getElem?_eq_some_iff.1 hg).1⟩
theorem flat_append (ds es : List (List UInt8)) : bs (ds ++ es).flatten = bs ds.flatten ++ bs es.flatten := by rw [List.flatten_append, bs_append]
/-- 'append' of digests onto an own slice. -/
theorem wpl_apD {w : World} {ops : Array Oper} {rest : List Oper} {o : Oper} {a : Act} {Q : Exit → Act → World → Prop}
    (hg : o.guard = none) (s x : Operand) (hop : o.op = Op.call { callee := Callee.builtin Builtin.append, args := #[s, x], argTypes := #[46, 46] })
    {B : Nat} {v vx : Value} {xs ys : List (List UInt8)} (hs : a.eval s = v) (hown : OwD B w v xs) (hx : a.eval x = vx) (hsrc : SlD w vx ys)
    (hlen : xs.length + ys.length ≤ 1099511627776) (hB : B ≤ w.heap.size)
    (hK : ∀ v' w', OwD B w' v' (xs ++ ys) → w.grownBy w' v.ownBlock → Below B w w' → wpList Try.prog ops Q rest (a.put o.dst v') w') : wpList Try.prog ops Q (o :: rest) a w := by
  obtain ⟨⟨A, c, rfl, hc, hcm, hA, hr⟩, h32⟩ := hsrc
  refine wpl_ap_own (size := 32) (bytes := 32) (base := B) w hg s x 46 hop Try.underlying46 infoD (by simp [dg, Value.cells, bs_length, zer_length]) (by decide) hs hown.1 (bs ys.flatten) hx hA hc (by rw [bs_length, h32.flat]) hr (bs_one _) (by omega) (by omega) hB ?_
  intro v' w' ho hgr
  refine hK v' w' ⟨?_, hown.2.append h32⟩ hgr (Below.grown (Below.refl _ _) hgr hB (fun k hk => (World.ownsRow.lt hown.1 k hk).1))
  rw [List.length_append, flat_append]; exact ho
/-- The same, as one operation. -/
theorem wp_apD {w : World} {o : Oper} {a : Act} {K : Act → World → Prop} {Q : Exit → Act → World → Prop}
    (s x : Operand) (hop : o.op = Op.call { callee := Callee.builtin Builtin.append, args := #[s, x], argTypes := #[46, 46] })
    {B : Nat} {v vx : Value} {xs ys : List (List UInt8)} (hs : a.eval s = v) (hown : OwD B w v xs) (hx : a.eval x = vx) (hsrc : SlD w vx ys) (hne : ys ≠ [])
    (hlen : xs.length + ys.length ≤ 1099511627776) (hB : B ≤ w.heap.size)
    (hK : ∀ v' w', OwD B w' v' (xs ++ ys) → w.grownBy w' v.ownBlock → Below B w w' → K (a.put o.dst v') w') : o.wp Try.prog a w K Q := by
  obtain ⟨⟨A, c, rfl, hc, hcm, hA, hr⟩, h32⟩ := hsrc
  obtain ⟨i, hi, hz0, hz1, hz2⟩ := info_parts infoD
  cases A with
  | none =>
    have := hr.none_
    have hl : (bs ys.flatten).length = 0 := by rw [this]; rfl
    rw [bs_length, h32.flat] at hl
    exact absurd (List.eq_nil_of_length_eq_zero (by omega)) hne
  | some ad =>
    refine wp_append_own w s x 46 hop B 38 i _ 32 32 Try.underlying46 hi hz0 hz1 hz2 (by simp [dg, Value.cells, bs_length, zer_length]) (by decide) v xs.length (bs xs.flatten) hs hown.1 ad ys.length c (bs ys.flatten) hx (by rw [bs_length, h32.flat]) hr.some_ (bs_one _) (by unfold maxLen; omega) (by omega) hB ?_
    intro v' w' ho hgr _
    refine hK v' w' ⟨?_, hown.2.append h32⟩ hgr (Below.grown (Below.refl _ _) hgr hB (fun k hk => (World.ownsRow.lt hown.1 k hk).1))
    rw [List.length_append, flat_append]; exact ho
/-- One digest in new memory, as a slice. -/
theorem slD_one (w : World) (x : List UInt8) (t : TypeId) (hx : x.length = 32) : SlD (w.alloc (.cells (bs x).toArray t (0, 0))) (.slice (some ⟨w.heap.size, 0, none⟩) 1 1) [x] := by
  refine ⟨⟨_, _, rfl, Nat.le_refl _, by omega, by simp, ?_⟩, fun d hd => by rw [List.mem_singleton.1 hd]; exact hx⟩
  simp only [List.flatten_cons, List.flatten_nil, List.append_nil]
  exact rc_lit w x t (0, 0)
theorem flatMap_cells (ds : List (List UInt8)) : ((ds.map dg).flatMap fun v => v.cells.toList) = bs ds.flatten := by
  induction ds with
  | nil => rfl
  | cons d r ih =>
    rw [List.map_cons, List.flatMap_cons, ih, List.flatten_cons, bs_append]
    rfl
/-- A slice literal of digests. -/
theorem run_bDs (ds : List (List UInt8)) (hd : All32 ds) (h0 : 0 < ds.length) (hn : ds.length ≤ 65536) (parts : Array (Nat × Value)) (hp : parts.toList = ((ds.map dg).zipIdx 0).map fun x => (x.2, x.1)) (w : World) :
    (Instr.buildSlice 46 ds.length parts).run Try.prog w = .ok (.slice (.some ⟨w.heap.size, 0, none⟩) ds.length ds.length) (w.alloc (.cells (bs ds.flatten).toArray 38 (0, 0))) := by
  obtain ⟨i, hi, hz0, hz1, hz2⟩ := info_parts infoD
  refine run_buildSlice w 46 38 ds.length parts _ i (dg zer) Try.underlying46 hi hz0 (by rw [hz1]; omega) (by rw [hz1]; omega) ?_
  rw [hz1, hp]
  rw [Great.fill_whole (s := 32) (by decide) (ds.map dg) _ (fun v hv => ?_) (by simp)]
  · rw [flatMap_cells]
  · obtain ⟨d, hd', rfl⟩ := List.mem_map.1 hv
    show (bs d).toArray.size = 32
    rw [List.size_toArray, bs_length, hd d hd']
theorem run_bD (x : List UInt8) (hx : x.length = 32) (w : World) :
    (Instr.buildSlice 46 1 #[(0, dg x)]).run Try.prog w = .ok (.slice (.some ⟨w.heap.size, 0, none⟩) 1 1) (w.alloc (.cells (bs x).toArray 38 (0, 0))) := by
  have h := run_bDs [x] (fun d hd => by rw [List.mem_singleton.1 hd]; exact hx) (by simp) (by simp) #[(0, dg x)] rfl w
  simpa using h
theorem at_bs {P : Program} {ops : Array Oper} {Q : Exit → Act → World → Prop} {rest : List Oper} {a : Act} {w : World} {d : Option Tmp} {t ty : TypeId} {n : Nat} {x : Array (Nat × Operand)} {p : String} {af : Array Edge} {g : Option (Nat × Bool)}
    (h : wpList P ops Q ({ dst := d, op := .buildSlice t n x, type := ty, pos := p, after := af, guard := g } :: rest) a w) : wpList P ops Q ({ dst := d, op := .buildSlice t n x, type := ty, pos := p, after := af, guard := g } :: rest) a w := h
theorem wp_bD {o : Oper} {a : Act} {w : World} {K : Act → World → Prop} {Q : Exit → Act → World → Prop} {x : List UInt8} (hx : x.length = 32) (y : Operand) (ho : o.op = .buildSlice 46 1 #[(0, y)]) (hy : a.eval y = dg x)
    (h : K (a.put o.dst (.slice (.some ⟨w.heap.size, 0, none⟩) 1 1)) (w.alloc (.cells (bs x).toArray 38 (0, 0)))) : o.wp Try.prog a w K Q := by
  have hr := run_bD x hx w
  unfold Oper.wp execOp
  simp only [ho, List.map_toArray, List.map_cons, List.map_nil, hy, Sem.run_bind, hr, Result.andThen_ok]
  exact h
theorem wpl_bD {ops : Array Oper} {rest : List Oper} {o : Oper} {a : Act} {w : World} {Q : Exit → Act → World → Prop} (hg : o.guard = none) {x : List UInt8} (hx : x.length = 32) (y : Operand) (ho : o.op = .buildSlice 46 1 #[(0, y)]) (hy : a.eval y = dg x)
    (h : wpList Try.prog ops Q rest (a.put o.dst (.slice (.some ⟨w.heap.size, 0, none⟩) 1 1)) (w.alloc (.cells (bs x).toArray 38 (0, 0)))) : wpList Try.prog ops Q (o :: rest) a w :=
  wpList_plain hg fun _ hK => wp_bD hx y ho hy (hK _ _ h)
theorem wpl_bDs {ops : Array Oper} {rest : List Oper} {o : Oper} {a : Act} {w : World} {Q : Exit → Act → World → Prop} (hg : o.guard = none) (ds : List (List UInt8)) (hd : All32 ds) (h0 : 0 < ds.length) (hn : ds.length ≤ 65536) (ys : Array (Nat × Operand)) (n : Nat) (hnn : n = ds.length) (ho : o.op = .buildSlice 46 n ys)
    (hy : (ys.map fun (i, x) => (i, a.eval x)).toList = ((ds.map dg).zipIdx 0).map fun x => (x.2, x.1))
    (h : wpList Try.prog ops Q rest (a.put o.dst (.slice (.some ⟨w.heap.size, 0, none⟩) n n)) (w.alloc (.cells (bs ds.flatten).toArray 38 (0, 0)))) : wpList Try.prog ops Q (o :: rest) a w := by
  subst hnn
  refine wpList_plain hg fun K hK => ?_
  have hr := run_bDs ds hd h0 hn _ hy w
  unfold Oper.wp execOp
  simp only [ho, Sem.run_bind, hr, Result.andThen_ok]
  exact hK _ _ h
theorem slD_lit (w : World) (ds : List (List UInt8)) (t : TypeId) (hd : All32 ds) (hn : ds.length ≤ 65536) : SlD (w.alloc (.cells (bs ds.flatten).toArray t (0, 0))) (.slice (.some ⟨w.heap.size, 0, none⟩) ds.length ds.length) ds :=
  ⟨⟨_, _, rfl, Nat.le_refl _, by omega, by simp, rc_lit w ds.flatten t (0, 0)⟩, hd⟩
theorem Arr8.exAt {t : TypeId} {n : Nat} (T : Arr8 t n) {o : Oper} {a : Act} {w : World} {x : List UInt8} {ad : Addr} (hB : RdB w (some ad) x) (hx : x.length = n) (p : Operand) (ho : o.op = .load t p) (hp : a.eval p = .pointer (some ad)) :
    (execOp a.eval o).run Try.prog w = .ok (.value (dg x)) w := by
  unfold execOp
  simp only [ho, hp, Instr.loadAt, Instr.sureAddr, Sem.run_bind, Sem.run_pure, Result.andThen_ok, T.loadAt hB hx]

end Go.Proofs.Ytnpbapefjbfndaa
