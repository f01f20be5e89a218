/- Digests as values, in variables, held against each other; blocks of bytes. -/
import Derived.Test.YtcaaeimcieooiaaShaS
import Derived.Test.YtcaaeimcieooiaaRg
import Derived.Stop.BytesEq
set_option linter.unusedVariables false
set_option linter.unusedSimpArgs false
set_option maxRecDepth 10000
namespace Go.Proofs.Ytcaaeimcieooiaa
open Go.RowKit

theorem dg_cells (d : List UInt8) : (dg d).cells = (bs d).toArray := rfl
theorem Row32.range {w : World} {B : Nat} {xs : List UInt8} (h : Row32 w B xs) : w.rangeAt B 0 (bs xs) := fun j v hj => by
  have hlt : j < xs.length := by have := (List.getElem?_eq_some_iff.1 hj).1; rwa [bs_length] at this
  rw [Nat.zero_add, (h.cell hlt).1, ← hj, bs_get _ hlt]
theorem info32' {xs : List UInt8} (hl : xs.length = 32) : (Try.prog.info? 29).map (·.size) = some (bs xs).length := by rw [bs_length, hl]; kernel_rfl
/-- A block of bytes, of the type t. -/
def RowT (t : TypeId) (w : World) (B : Nat) (xs : List UInt8) : Prop := w.heap[B]? = some (.cells (bs xs).toArray t (0, 0))
theorem RowT.below {t : TypeId} {w w' : World} {B : Nat} {xs : List UInt8} (h : RowT t w B xs) (hb : Below w.heap.size w w') : RowT t w' B xs := (hb.block B (Array.getElem?_eq_some_iff.1 h).1).trans h
theorem RowT.lt {t : TypeId} {w : World} {B : Nat} {xs : List UInt8} (h : RowT t w B xs) : B < w.heap.size := (Array.getElem?_eq_some_iff.1 h).1
theorem RowT.cell {t : TypeId} {w : World} {B : Nat} {xs : List UInt8} (h : RowT t w B xs) {j : Nat} (hj : j < xs.length) : w.cell? ⟨B, j, none⟩ = some (.int .u8 (c8 (xs.getD j 0))) ∧ w.frozen? ⟨B, j, none⟩ = false := by
  refine ⟨?_, frozen_of_row _ _ _ _ _ h⟩
  rw [cell_of_row _ _ _ _ _ _ h, List.getElem?_toArray, bs_get _ hj]
theorem RowT.set {t : TypeId} {w : World} {B : Nat} {xs : List UInt8} (h : RowT t w B xs) (j : Nat) (x : UInt8) : RowT t (w.setCell ⟨B, j, none⟩ (.int .u8 (c8 x))) B (xs.set j x) := by
  unfold RowT at h ⊢
  rw [heap_setCell_same w B j _ _ _ h]
  simp [bs, List.map_set]
theorem RowT.sl {t : TypeId} {w : World} {B : Nat} {xs : List UInt8} (h : RowT t w B xs) (hl : xs.length ≤ 1099511627776) : SlB w (.slice (some ⟨B, 0, none⟩) xs.length xs.length) xs := by
  refine ⟨_, _, rfl, Nat.le_refl _, by omega, by simp, Rc.of_some fun j u hj => ?_⟩
  rw [Addr.add_lit, Nat.zero_add, cell_of_row _ _ _ _ _ _ h]
  simpa using hj
theorem RowT.range {t : TypeId} {w : World} {B : Nat} {xs : List UInt8} (h : RowT t w B xs) : w.rangeAt B 0 (bs xs) := fun j v hj => by
  have hlt : j < xs.length := by have := (List.getElem?_eq_some_iff.1 hj).1; rwa [bs_length] at this
  rw [Nat.zero_add, (h.cell hlt).1, ← hj, bs_get _ hlt]
theorem ix_dg (w : World) (xs : List UInt8) (k : Nat) (hk : k < 32) (hl : xs.length = 32) : (Instr.index 29 (.agg (bs xs).toArray) (.int .i64 (k : Int))).run Try.prog w = .ok (.int .u8 (c8 (xs.getD k 0))) w := by
  have h1 : (0 : Int) ≤ (k : Int) := by omega
  have h2 : (k : Int) < 32 := by omega
  have h3 : (bs xs)[k]? = some (.int .u8 (c8 (xs.getD k 0))) := bs_get _ (by omega)
  simp [Instr.index, go_sem, h1, h2, asIntOf, part]
  rw [if_pos hk, h3]
  simp
theorem Row32.at {w : World} {B : Nat} {d : List UInt8} (h : Row32 w B d) {k : Nat} {x : UInt8} (hk : k < d.length) (hx : d.getD k 0 = x) : w.cell? ⟨B, k, none⟩ = some (.int .u8 (c8 x)) := hx ▸ (h.cell hk).1

/-- Two results, the first lies in memory, whole. -/
theorem ret_cell2 {P : Program} {fn : Func} {R : Ending → World → Prop} {a : Act} {w : World} {x y : Tmp} {t : TypeId} {ad : Addr} {v : Value} (hr : fn.results = #[.cell x t, .tmp y]) (hx : a.tmps.getD x undef = .pointer (some ad))
    (hl : (loadVar t ad).run P w = .ok v w) (hd : a.defers = []) (h : R (.returned (.tuple #[v, a.tmps.getD y undef])) w) : bodyPost P fn R .ret a w := by
  refine ⟨hd, .tuple #[v, a.tmps.getD y undef], ?_, h⟩
  unfold results
  rw [hr]
  rw [Array.getD_eq_getD_getElem?] at hx
  simp [hx, asAddr, Sem.run_bind, hl]
@[go_sem, simp] theorem str_size (xs : List UInt8) : (str xs).size = xs.length := by simp [str, ByteArray.size]
theorem ix_str (w : World) (s : List UInt8) (k : Nat) (h : k < s.length) : (Instr.index 9 (.string (str s)) (.int .i64 (k : Int))).run Try.prog w = .ok (.int .u8 (c8 (s.getD k 0))) w := by
  have h1 : (0 : Int) ≤ (k : Int) := by omega
  have h2 : (k : Int) < s.length := by omega
  have h5 : (str s)[k]? = some (s.getD k 0) := by
    rw [getElem?_pos (str s) k (by rw [str_size]; exact h)]
    congr 1
    show s.toArray[k] = _
    simp [h]
  simp [Instr.index, go_sem, h1, h2, asIntOf]
  rw [h5]; rfl

theorem alloc2 {w W2 : World} {o1 o2 : Obj} (hW : (w.alloc o1).alloc o2 = W2) : W2.heap[w.heap.size]? = some o1 ∧ W2.heap[w.heap.size + 1]? = some o2 ∧ Below w.heap.size w W2 ∧ W2.heap.size = w.heap.size + 2 := by
  subst hW
  refine ⟨?_, ?_, Ext.trans (ext_alloc _ _) (ext_alloc _ _), by rw [size_alloc, size_alloc]⟩
  · rw [Below.heap_alloc _ _ _ (by rw [size_alloc]; omega)]; exact heap_alloc_new _ _
  · have := heap_alloc_new (w.alloc o1) o2
    rwa [size_alloc] at this
def zer : List UInt8 := List.replicate 32 0
theorem zer_length : zer.length = 32 := rfl

theorem bs_cell (xs : List UInt8) : bs xs = xs.map Extern.Stop.cell := rfl
theorem eq_dg (xs ys : List UInt8) (hx : xs.length = 32) (hy : ys.length = 32) (w : World) : (Op.equalIn 10000 29 (dg xs) (dg ys)).run Try.prog w = .ok (xs == ys) w := by
  unfold dg; rw [bs_cell, bs_cell]
  exact run_equalIn_bytes w 9998 29 5 32 (by kernel_rfl) (by kernel_rfl) (fun w => by simp [go_sem]) xs ys hx hy
theorem eql_dg (xs ys : List UInt8) (hx : xs.length = 32) (hy : ys.length = 32) (w : World) : (binOp .eql 29 (dg xs) (dg ys)).run Try.prog w = .ok (.bool (xs == ys)) w := by
  have h := eq_dg xs ys hx hy w
  unfold dg at *; rw [run_eql_struct, h]; rfl
theorem neq_dg (xs ys : List UInt8) (hx : xs.length = 32) (hy : ys.length = 32) (w : World) : (binOp .neq 29 (dg xs) (dg ys)).run Try.prog w = .ok (.bool (!(xs == ys))) w := by
  have h := eq_dg xs ys hx hy w
  unfold dg at *; rw [run_neq_struct, h]; rfl
theorem eql_dg_self (xs : List UInt8) (hx : xs.length = 32) (w : World) : (binOp .eql 29 (dg xs) (dg xs)).run Try.prog w = .ok (.bool true) w := by
  rw [eql_dg xs xs hx hx]; simp
theorem neq_dg_self (xs : List UInt8) (hx : xs.length = 32) (w : World) : (binOp .neq 29 (dg xs) (dg xs)).run Try.prog w = .ok (.bool false) w := by
  rw [neq_dg xs xs hx hx]; simp
theorem guard_dg (op : BinOp) (x y : Operand) (xs ys : List UInt8) (w : World) : (eqGuard op 29 x y (dg xs) (dg ys)).run Try.prog w = .ok () w := by
  unfold dg; exact run_eqGuard_agg w op _ _ _ _ _ (by kernel_rfl)

/-- A digest is laid into a new variable. -/
theorem wp_store_dg {o : Oper} {a : Act} {w : World} {K : Act → World → Prop} {Q : Exit → Act → World → Prop} {x : List UInt8} (hx : x.length = 32) (p y : Operand) (ho : o.op = .store 29 p y) (hp : a.eval p = .pointer (some ⟨w.heap.size, 0, none⟩)) (hy : a.eval y = dg x)
    (h : K (a.put o.dst undef) (w.alloc (.cells (bs x).toArray 29 (0, 0)))) : o.wp Try.prog a (w.alloc (.cells (bs zer).toArray 29 (0, 0))) K Q := by
  refine wp_store_row 29 p y ho w.heap.size (bs x).toArray hp hy 29 _ (heap_alloc_new _ _) (info32 hx) (by simp [bs_length, hx, zer_length]) (all_oneCell_toArray (bs_one _)) ?_
  have e : (w.alloc (.cells (bs zer).toArray 29 (0, 0))).setRow w.heap.size (bs x).toArray = w.alloc (.cells (bs x).toArray 29 (0, 0)) := by
    simp only [World.alloc, World.setRow]
    congr 1
    apply Array.ext'
    simp [Array.modify, Array.modifyM]
  rw [e]; exact h
theorem wpl_store_dg {ops : Array Oper} {rest : List Oper} {o : Oper} {a : Act} {w : World} {Q : Exit → Act → World → Prop} {x : List UInt8} (hg : o.guard = none) (hx : x.length = 32) (p y : Operand) (ho : o.op = .store 29 p y) (hp : a.eval p = .pointer (some ⟨w.heap.size, 0, none⟩)) (hy : a.eval y = dg x)
    (h : wpList Try.prog ops Q rest (a.put o.dst undef) (w.alloc (.cells (bs x).toArray 29 (0, 0)))) : wpList Try.prog ops Q (o :: rest) a (w.alloc (.cells (bs zer).toArray 29 (0, 0))) :=
  wpList_plain hg fun _ hK => wp_store_dg hx p y ho hp hy (hK _ _ h)
/-- A digest is read whole. -/
theorem wpl_load_dg {ops : Array Oper} {rest : List Oper} {o : Oper} {a : Act} {w : World} {Q : Exit → Act → World → Prop} {x : List UInt8} {B : Nat} (hB : Row32 w B x) (hg : o.guard = none) (hx : x.length = 32) (p : Operand) (ho : o.op = .load 29 p) (hp : a.eval p = .pointer (some ⟨B, 0, none⟩))
    (h : wpList Try.prog ops Q rest (a.put o.dst (dg x)) w) : wpList Try.prog ops Q (o :: rest) a w :=
  wpList_load_mid hg 29 _ ho B 0 hp _ _ hB.range Try.underlying29 rfl (info32' hx) h
theorem wpl_load_dg' {ops : Array Oper} {rest : List Oper} {o : Oper} {a : Act} {w : World} {Q : Exit → Act → World → Prop} {x : List UInt8} {B : Nat} (hB : Row32 w B x) (hw : Region.wanted o (yielded ops a.tmps) = true) (hx : x.length = 32) (p : Operand) (ho : o.op = .load 29 p) (hp : a.eval p = .pointer (some ⟨B, 0, none⟩))
    (h : wpList Try.prog ops Q rest (a.put o.dst (dg x)) w) : wpList Try.prog ops Q (o :: rest) a w :=
  wpList_step fun K hK => by
    rw [if_pos hw]
    exact wp_load_mid 29 _ ho B 0 hp _ _ hB.range Try.underlying29 rfl (info32' hx) (hK _ _ h)
theorem ex_load_dg {o : Oper} {a : Act} {w : World} {x : List UInt8} {B : Nat} (hB : Row32 w B x) (hx : x.length = 32) (p : Operand) (ho : o.op = .load 29 p) (hp : a.eval p = .pointer (some ⟨B, 0, none⟩)) :
    (execOp a.eval o).run Try.prog w = .ok (.value (dg x)) w := by
  unfold execOp
  simp only [ho, hp, Instr.loadAt, Instr.sureAddr, Sem.run_bind, Sem.run_pure, Result.andThen_ok, load32 hB hx]
end Go.Proofs.Ytcaaeimcieooiaa
