/- Arrays of bytes of any length as values, in variables, held against each other. -/
import Derived.Test.YtcaaeimcieooiaaDg
set_option linter.unusedVariables false
set_option linter.unusedSimpArgs false
set_option maxRecDepth 10000
namespace Go.Proofs.Ytcaaeimcieooiaa
open Go.RowKit

/-- t is the type of arrays of n bytes. -/
structure Arr8 (t : TypeId) (n : Nat) : Prop where
  hu : Try.prog.underlying t = some (.array n 5)
  hi : (Try.prog.info? t).map (·.size) = some n
  hg : Try.prog.eqGuardType Try.prog.depth t = false

theorem setRow_alloc {t : TypeId} (w : World) (old new : Array Value) : (w.alloc (.cells old t (0, 0))).setRow w.heap.size new = w.alloc (.cells new t (0, 0)) := by
  simp only [World.alloc, World.setRow]
  congr 1
  apply Array.ext'
  simp [Array.modify, Array.modifyM]

section
variable {t : TypeId} {n : Nat} (T : Arr8 t n)
include T
theorem Arr8.info {xs : List UInt8} (hl : xs.length = n) : (Try.prog.info? t).map (·.size) = some (bs xs).length := by rw [bs_length, hl]; exact T.hi
theorem Arr8.infoA {xs : List UInt8} (hl : xs.length = n) : (Try.prog.info? t).map (·.size) = some (bs xs).toArray.size := by rw [List.size_toArray]; exact T.info hl
theorem Arr8.loadVar {w : World} {D : Nat} {xs : List UInt8} (h : RowT t w D xs) (hl : xs.length = n) : (loadVar t ⟨D, 0, none⟩).run Try.prog w = .ok (dg xs) w :=
  run_loadVar_row (P := Try.prog) w D t t (bs xs).toArray (0, 0) _ h T.hu rfl (T.infoA hl)
theorem Arr8.eq (xs ys : List UInt8) (hx : xs.length = n) (hy : ys.length = n) (w : World) : (Op.equalIn 10000 t (dg xs) (dg ys)).run Try.prog w = .ok (xs == ys) w := by
  unfold dg; rw [bs_cell, bs_cell]
  exact run_equalIn_bytes w 9998 t 5 n T.hu (by kernel_rfl) (fun w => by simp [go_sem]) xs ys hx hy
theorem Arr8.eql (xs ys : List UInt8) (hx : xs.length = n) (hy : ys.length = n) (w : World) : (binOp .eql t (dg xs) (dg ys)).run Try.prog w = .ok (.bool (xs == ys)) w := by
  have h := T.eq xs ys hx hy w
  unfold dg at *; rw [run_eql_struct, h]; rfl
theorem Arr8.neq (xs ys : List UInt8) (hx : xs.length = n) (hy : ys.length = n) (w : World) : (binOp .neq t (dg xs) (dg ys)).run Try.prog w = .ok (.bool (!(xs == ys))) w := by
  have h := T.eq xs ys hx hy w
  unfold dg at *; rw [run_neq_struct, h]; rfl
theorem Arr8.eqlSelf (xs : List UInt8) (hx : xs.length = n) (w : World) : (binOp .eql t (dg xs) (dg xs)).run Try.prog w = .ok (.bool true) w := by
  rw [T.eql xs xs hx hx]; simp
theorem Arr8.neqSelf (xs : List UInt8) (hx : xs.length = n) (w : World) : (binOp .neq t (dg xs) (dg xs)).run Try.prog w = .ok (.bool false) w := by
  rw [T.neq xs xs hx hx]; simp
theorem Arr8.guard (op : BinOp) (x y : Operand) (xs ys : List UInt8) (w : World) : (eqGuard op t x y (dg xs) (dg ys)).run Try.prog w = .ok () w := by
  unfold dg; exact run_eqGuard_agg w op _ _ _ _ _ T.hg

/-- An array is laid into a new variable. -/
theorem Arr8.store_new {o : Oper} {a : Act} {w : World} {K : Act → World → Prop} {Q : Exit → Act → World → Prop} {x z : List UInt8} (hz : z.length = n) (hx : x.length = n) (p y : Operand) (ho : o.op = .store t p y) (hp : a.eval p = .pointer (some ⟨w.heap.size, 0, none⟩)) (hy : a.eval y = dg x)
    (h : K (a.put o.dst undef) (w.alloc (.cells (bs x).toArray t (0, 0)))) : o.wp Try.prog a (w.alloc (.cells (bs z).toArray t (0, 0))) K Q := by
  refine wp_store_row t p y ho w.heap.size (bs x).toArray hp hy t _ (heap_alloc_new _ _) (T.infoA hx) (by simp [bs_length, hx, hz]) (all_oneCell_toArray (bs_one _)) ?_
  rw [setRow_alloc]; exact h
theorem Arr8.store_newL {ops : Array Oper} {rest : List Oper} {o : Oper} {a : Act} {w : World} {Q : Exit → Act → World → Prop} {x z : List UInt8} (hz : z.length = n) (hg : o.guard = none) (hx : x.length = n) (p y : Operand) (ho : o.op = .store t p y) (hp : a.eval p = .pointer (some ⟨w.heap.size, 0, none⟩)) (hy : a.eval y = dg x)
    (h : wpList Try.prog ops Q rest (a.put o.dst undef) (w.alloc (.cells (bs x).toArray t (0, 0)))) : wpList Try.prog ops Q (o :: rest) a (w.alloc (.cells (bs z).toArray t (0, 0))) :=
  wpList_plain hg fun _ hK => T.store_new hz hx p y ho hp hy (hK _ _ h)
/-- An array is laid over another. -/
theorem Arr8.store {o : Oper} {a : Act} {w : World} {K : Act → World → Prop} {Q : Exit → Act → World → Prop} {B : Nat} {x z : List UInt8} (hB : RowT t w B z) (hz : z.length = n) (hx : x.length = n) (p y : Operand) (ho : o.op = .store t p y) (hp : a.eval p = .pointer (some ⟨B, 0, none⟩)) (hy : a.eval y = dg x)
    (h : K (a.put o.dst undef) (w.setRow B (bs x).toArray)) : o.wp Try.prog a w K Q :=
  wp_store_row t p y ho B (bs x).toArray hp hy t _ hB (T.infoA hx) (by simp [bs_length, hx, hz]) (all_oneCell_toArray (bs_one _)) h
theorem Arr8.storeL {ops : Array Oper} {rest : List Oper} {o : Oper} {a : Act} {w : World} {Q : Exit → Act → World → Prop} {B : Nat} {x z : List UInt8} (hB : RowT t w B z) (hz : z.length = n) (hg : o.guard = none) (hx : x.length = n) (p y : Operand) (ho : o.op = .store t p y) (hp : a.eval p = .pointer (some ⟨B, 0, none⟩)) (hy : a.eval y = dg x)
    (h : wpList Try.prog ops Q rest (a.put o.dst undef) (w.setRow B (bs x).toArray)) : wpList Try.prog ops Q (o :: rest) a w :=
  wpList_plain hg fun _ hK => T.store hB hz hx p y ho hp hy (hK _ _ h)
/-- An array is read whole. -/
theorem Arr8.loadL {ops : Array Oper} {rest : List Oper} {o : Oper} {a : Act} {w : World} {Q : Exit → Act → World → Prop} {x : List UInt8} {B : Nat} (hB : RowT t w B x) (hw : Region.wanted o (yielded ops a.tmps) = true) (hx : x.length = n) (p : Operand) (ho : o.op = .load t p) (hp : a.eval p = .pointer (some ⟨B, 0, none⟩))
    (h : wpList Try.prog ops Q rest (a.put o.dst (dg x)) w) : wpList Try.prog ops Q (o :: rest) a w :=
  wpList_step fun K hK => by
    rw [if_pos hw]
    exact wp_load_mid t _ ho B 0 hp _ _ hB.range T.hu rfl (T.info hx) (hK _ _ h)
theorem Arr8.loadAt {w : World} {ad : Addr} {xs : List UInt8} (h : RdB w (some ad) xs) (hl : xs.length = n) : (Go.loadVar t ad).run Try.prog w = .ok (dg xs) w := by
  have hlc : (loadCells ad (bs xs).length).run Try.prog w = .ok (bs xs).toArray w := run_loadCells_list (P := Try.prog) w ad (bs xs) h.some_
  have hi := T.info hl
  cases hq : Try.prog.info? t with
  | none => simp [hq] at hi
  | some i =>
    have hs : i.size = (bs xs).length := by simpa [hq] using hi
    have hagg : (isAgg t).run Try.prog w = .ok true w := by
      unfold isAgg
      rw [Sem.run_bind, run_underlying T.hu w]
      rfl
    simp [Go.loadVar, Sem.run_bind, hagg, sizeOf, typeInfo, hq, hs, hlc, dg]
theorem Arr8.loadAtL {ops : Array Oper} {rest : List Oper} {o : Oper} {a : Act} {w : World} {Q : Exit → Act → World → Prop} {x : List UInt8} {ad : Addr} (hB : RdB w (some ad) x) (hw : Region.wanted o (yielded ops a.tmps) = true) (hx : x.length = n) (p : Operand) (ho : o.op = .load t p) (hp : a.eval p = .pointer (some ad))
    (h : wpList Try.prog ops Q rest (a.put o.dst (dg x)) w) : wpList Try.prog ops Q (o :: rest) a w :=
  wpList_step fun K hK => by
    rw [if_pos hw]
    unfold Oper.wp execOp
    simp only [ho, hp, Instr.loadAt, Instr.sureAddr, Sem.run_bind, Sem.run_pure, Result.andThen_ok, T.loadAt hB hx]
    exact hK _ _ h
theorem Arr8.ex {o : Oper} {a : Act} {w : World} {x : List UInt8} {B : Nat} (hB : RowT t w B x) (hx : x.length = n) (p : Operand) (ho : o.op = .load t p) (hp : a.eval p = .pointer (some ⟨B, 0, none⟩)) :
    (execOp a.eval o).run Try.prog w = .ok (.value (dg x)) w := by
  unfold execOp
  simp only [ho, hp, Instr.loadAt, Instr.sureAddr, Sem.run_bind, Sem.run_pure, Result.andThen_ok, T.loadVar hB hx]
end
theorem rc_lit (w : World) (xs : List UInt8) (t : TypeId) (fr : Nat × Nat) : Rc (w.alloc (.cells (bs xs).toArray t fr)) (some ⟨w.heap.size, 0, none⟩) (bs xs) := by
  refine Rc.of_some fun j u hj => ?_
  rw [Addr.add_lit, Nat.zero_add, cell_of_row _ _ _ _ _ _ (heap_alloc_new w _)]
  simpa using hj
theorem arr_dg : Arr8 29 32 := ⟨by kernel_rfl, by kernel_rfl, by kernel_rfl⟩
theorem RowT.setRow {t : TypeId} {w : World} {B : Nat} {xs : List UInt8} (h : RowT t w B xs) (ys : List UInt8) : RowT t (w.setRow B (bs ys).toArray) B ys := setRow_heap w B _ _ _ _ h
theorem RowT.other {t : TypeId} {w : World} {B D : Nat} {xs : List UInt8} (h : RowT t w B xs) (hne : B ≠ D) (cs : Array Value) : RowT t (w.setRow D cs) B xs := (heap_setRow_other w D B cs hne).trans h
end Go.Proofs.Ytcaaeimcieooiaa
