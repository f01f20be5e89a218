/- The law RangesPlays: its acts in memory; what is turned apart (no walk). -/
import Derived.Test.YtcaaeimcieooiaaRngO
import Derived.Laws.AppendOwnNone
set_option linter.unusedVariables false
set_option linter.unusedSimpArgs false
set_option maxRecDepth 10000
namespace Go.Proofs.Ytcaaeimcieooiaa
open Go.RowKit

/-- An act of the law. -/
structure ActR where
  (what : Int) (d : List UInt8) (ps : List (List UInt8)) (size : Nat)
def actC (what : Int) (d : List UInt8) (vp : Value) (size : Nat) : List Value := .int .i64 what :: (bs d ++ [vp, .int .u64 (size : Int)])
def ActC (w : World) (cs : List Value) (a : ActR) : Prop := ∃ vp, cs = actC a.what a.d vp a.size ∧ a.d.length = 32 ∧ SlD w vp a.ps ∧ -9223372036854775808 ≤ a.what ∧ a.what ≤ 9223372036854775807
theorem actC_length {what : Int} {d : List UInt8} {vp : Value} {size : Nat} (hd : d.length = 32) : (actC what d vp size).length = 35 := by simp [actC, bs_length, hd]
theorem actC_one {what : Int} {d : List UInt8} {vp : Value} {size : Nat} (hv : vp.oneCell' = true) : ∀ v ∈ actC what d vp size, v.oneCell' = true := fun v h => by
  unfold actC at h
  rcases List.mem_cons.1 h with rfl | h
  · rfl
  · rcases List.mem_append.1 h with h | h
    · exact bs_one _ v h
    · simp only [List.mem_cons, List.not_mem_nil, or_false] at h
      rcases h with rfl | rfl
      · exact hv
      · rfl
theorem infoA1 : (Try.prog.info? 33).map (·.size) = some 35 := by kernel_rfl
theorem underA : ∃ fs, Try.prog.underlying 33 = some (.struct fs) := ⟨_, by rw [Try.underlying33]⟩
theorem load_act {w : World} {ad : Addr} {what : Int} {d : List UInt8} {vp : Value} {size : Nat} (h : Rc w (some ad) (actC what d vp size)) (hd : d.length = 32) : (Go.loadVar 33 ad).run Try.prog w = .ok (.agg (actC what d vp size).toArray) w := by
  have hlc : (loadCells ad (actC what d vp size).length).run Try.prog w = .ok (actC what d vp size).toArray w := run_loadCells_list (P := Try.prog) w ad _ h.some_
  obtain ⟨fs, hu⟩ := underA
  have hi := infoA1
  cases hq : Try.prog.info? 33 with
  | none => simp [hq] at hi
  | some i =>
    have hs : i.size = (actC what d vp size).length := by rw [actC_length hd]; simpa [hq] using hi
    have hagg : (isAgg 33).run Try.prog w = .ok true w := by
      unfold isAgg
      rw [Sem.run_bind, run_underlying hu w]
      rfl
    simp [Go.loadVar, Sem.run_bind, hagg, sizeOf, typeInfo, hq, hs, hlc]
theorem wpl_loadA {ops : Array Oper} {rest : List Oper} {o : Oper} {a : Act} {w : World} {Q : Exit → Act → World → Prop} {ad : Addr} {what : Int} {d : List UInt8} {vp : Value} {size : Nat} (h : Rc w (some ad) (actC what d vp size)) (hd : d.length = 32) (hg : o.guard = none) (p : Operand) (ho : o.op = .load 33 p) (hp : a.eval p = .pointer (some ad))
    (hK : wpList Try.prog ops Q rest (a.put o.dst (.agg (actC what d vp size).toArray)) w) : wpList Try.prog ops Q (o :: rest) a w :=
  wpList_plain hg fun _ hk => by
    unfold Oper.wp execOp
    simp only [ho, hp, Instr.loadAt, Instr.sureAddr, Sem.run_bind, Sem.run_pure, Result.andThen_ok, load_act h hd]
    exact hk _ _ hK
/-- An act in a variable. -/
def RowA (w : World) (D : Nat) (what : Int) (d : List UInt8) (vp : Value) (size : Nat) : Prop := w.heap[D]? = some (.cells (actC what d vp size).toArray 33 (0, 0))
/-- An act is laid into a new variable. -/
theorem wpl_storeA {ops : Array Oper} {rest : List Oper} {o : Oper} {a : Act} {w : World} {Q : Exit → Act → World → Prop} {what : Int} {d : List UInt8} {vp : Value} {size : Nat} (hd : d.length = 32) (hv : vp.oneCell' = true) (hg : o.guard = none) (p y : Operand) (ho : o.op = .store 33 p y) (hp : a.eval p = .pointer (some ⟨w.heap.size, 0, none⟩)) (hy : a.eval y = .agg (actC what d vp size).toArray)
    (h : wpList Try.prog ops Q rest (a.put o.dst undef) (w.alloc (.cells (actC what d vp size).toArray 33 (0, 0)))) : wpList Try.prog ops Q (o :: rest) a (w.alloc (.cells (actC 0 zer (.slice none 0 0) 0).toArray 33 (0, 0))) := by
  refine wpList_store_row hg 33 p y ho w.heap.size (actC what d vp size).toArray hp hy 33 _ (heap_alloc_new _ _) (by rw [infoA1, List.size_toArray, actC_length hd]) (by rw [List.size_toArray, List.size_toArray, actC_length hd, actC_length zer_length]) (all_oneCell_toArray (actC_one hv)) ?_
  rw [setRow_alloc]; exact h
section
variable {w w' : World} {D : Nat} {what : Int} {d : List UInt8} {vp : Value} {size : Nat}
theorem RowA.lt (h : RowA w D what d vp size) : D < w.heap.size := (Array.getElem?_eq_some_iff.1 h).1
theorem RowA.below (h : RowA w D what d vp size) (hb : Below w.heap.size w w') : RowA w' D what d vp size := (hb.block D h.lt).trans h
theorem RowA.but {S : Nat → Prop} (h : RowA w D what d vp size) (b : But S w w') (hn : ¬ S D) : RowA w' D what d vp size := (b.block D h.lt hn).trans h
theorem RowA.cell (h : RowA w D what d vp size) {j : Nat} {v : Value} (hv : (actC what d vp size)[j]? = some v) : w.cell? ⟨D, j, none⟩ = some v := by
  rw [cell_of_row _ _ _ _ _ _ h, List.getElem?_toArray, hv]
theorem RowA.w0 (h : RowA w D what d vp size) : w.cell? ⟨D, 0, none⟩ = some (.int .i64 what) := h.cell rfl
theorem RowA.dig (h : RowA w D what d vp size) (hd : d.length = 32) : RdB w (some ⟨D, 1, none⟩) d := Rc.of_some fun j u hj => by
  have hl : j < 32 := by have := (List.getElem?_eq_some_iff.1 hj).1; rw [bs_length] at this; omega
  rw [Addr.add_lit]
  refine h.cell ?_
  unfold actC
  rw [Nat.add_comm, List.getElem?_cons_succ, List.getElem?_append_left (by rw [bs_length]; omega)]
  exact hj
theorem RowA.tail (h : RowA w D what d vp size) (hd : d.length = 32) : w.cell? ⟨D, 33, none⟩ = some vp ∧ w.cell? ⟨D, 34, none⟩ = some (.int .u64 (size : Int)) := by
  refine ⟨h.cell ?_, h.cell ?_⟩
  · unfold actC
    rw [show (33 : Nat) = 32 + 1 from rfl, List.getElem?_cons_succ, List.getElem?_append_right (by rw [bs_length]; omega), bs_length, hd]; rfl
  · unfold actC
    rw [show (34 : Nat) = 33 + 1 from rfl, List.getElem?_cons_succ, List.getElem?_append_right (by rw [bs_length]; omega), bs_length, hd]; rfl
end
/-! ### Blocks of unlike kinds -/
theorem OwD.blkT {B : Nat} {w : World} {v : Value} {ds : List (List UInt8)} (h : OwD B w v ds) {k : Nat} (hk : v.ownBlock = Option.some k) : ∃ cs fr, w.heap[k]? = Option.some (.cells cs 29 fr) := by
  rcases h.1.2 with ⟨e, _⟩ | ⟨g, cap, cur, e, _, hg, _⟩
  · rw [e] at hk; simp [Value.ownBlock] at hk
  · rw [e] at hk
    simp only [Value.ownBlock, Option.some.injEq] at hk
    subst hk
    exact ⟨_, _, hg⟩
theorem RgH.blkT {B : Nat} {w : World} {p n : Nat} {v : Value} {ds : List (List UInt8)} (h : RgH B w p n v ds) {k : Nat} (hk : RgB p v k) : ∃ cs t fr, w.heap[k]? = some (.cells cs t fr) ∧ (t = 49 ∨ t = 29) := by
  rcases hk with rfl | hk
  · exact ⟨_, _, _, h.at_, .inl rfl⟩
  · obtain ⟨cs, fr, e⟩ := h.own.blkT hk
    exact ⟨cs, _, fr, e, .inr rfl⟩
theorem RrH.blkT {B : Nat} {w : World} {p n : Nat} {v : Value} {ps : List PartL} (h : RrH B w p n v ps) {k : Nat} (hk : RgB p v k) : ∃ cs t fr, w.heap[k]? = some (.cells cs t fr) ∧ (t = 54 ∨ t = 60) := by
  rcases hk with rfl | hk
  · exact ⟨_, _, _, h.at_, .inl rfl⟩
  · rcases h.own.1.2 with ⟨e, _⟩ | ⟨g, cap, cur, e, _, hg, _⟩
    · rw [e] at hk; simp [Value.ownBlock] at hk
    · rw [e] at hk
      simp only [Value.ownBlock, Option.some.injEq] at hk
      subst hk
      exact ⟨_, _, _, hg, .inr rfl⟩
theorem RgH.ne {B B2 : Nat} {w : World} {p n q m : Nat} {v v2 : Value} {ds : List (List UInt8)} {ps : List PartL} (h : RgH B w p n v ds) (h2 : RrH B2 w q m v2 ps) (k : Nat) (hk : RgB p v k) (hk2 : RgB q v2 k) : False := by
  obtain ⟨cs, t, fr, e, ht⟩ := h.blkT hk
  obtain ⟨cs2, t2, fr2, e2, ht2⟩ := h2.blkT hk2
  rw [e] at e2
  simp only [Option.some.injEq, Obj.cells.injEq] at e2
  obtain ⟨_, et, _⟩ := e2
  subst et
  rcases ht with rfl | rfl <;> rcases ht2 with h3 | h3 <;> exact absurd h3 (by decide)
theorem RrH.neD {B B2 : Nat} {w : World} {q m : Nat} {v2 u : Value} {ds : List (List UInt8)} {ps : List PartL} (h2 : RrH B2 w q m v2 ps) (h : OwD B w u ds) (k : Nat) (hk : u.ownBlock = some k) : ¬ RgB q v2 k := fun hk2 => by
  obtain ⟨cs, fr, e⟩ := h.blkT hk
  obtain ⟨cs2, t2, fr2, e2, ht2⟩ := h2.blkT hk2
  rw [e] at e2
  simp only [Option.some.injEq, Obj.cells.injEq] at e2
  obtain ⟨_, et, _⟩ := e2
  subst et
  rcases ht2 with h3 | h3 <;> exact absurd h3 (by decide)
theorem RgH.neA {B : Nat} {w : World} {p n D sz : Nat} {v vp : Value} {ds : List (List UInt8)} {what : Int} {d : List UInt8} (h : RgH B w p n v ds) (hA : RowA w D what d vp sz) : ¬ RgB p v D := fun hk => by
  obtain ⟨cs, t, fr, e, ht⟩ := h.blkT hk
  rw [show w.heap[D]? = _ from hA] at e
  simp only [Option.some.injEq, Obj.cells.injEq] at e
  obtain ⟨_, et, _⟩ := e
  subst et
  rcases ht with h3 | h3 <;> exact absurd h3 (by decide)
theorem RrH.neA {B : Nat} {w : World} {p n D sz : Nat} {v vp : Value} {ps : List PartL} {what : Int} {d : List UInt8} (h : RrH B w p n v ps) (hA : RowA w D what d vp sz) : ¬ RgB p v D := fun hk => by
  obtain ⟨cs, t, fr, e, ht⟩ := h.blkT hk
  rw [show w.heap[D]? = _ from hA] at e
  simp only [Option.some.injEq, Obj.cells.injEq] at e
  obtain ⟨_, et, _⟩ := e
  subst et
  rcases ht with h3 | h3 <;> exact absurd h3 (by decide)
theorem told_bound : ∀ (f n : Nat) (ds : List (List UInt8)) (x : List UInt8) (told : List (List UInt8)), told.length ≤ (addN f n ds x told).2.2.length ∧ (addN f n ds x told).2.2.length ≤ told.length + f
  | 0, n, ds, x, told => ⟨Nat.le_refl _, Nat.le_refl _⟩
  | f + 1, n, ds, x, told => by
    unfold addN
    split
    · have := told_bound f (n / 2) (ds.take (ds.length - 1)) (nodeL (ds.getD (ds.length - 1) []) x) (told ++ [nodeL (ds.getD (ds.length - 1) []) x])
      rw [List.length_append, List.length_singleton] at this
      omega
    · exact ⟨Nat.le_refl _, Nat.le_add_right _ _⟩
theorem told_le (n : Nat) (ds : List (List UInt8)) (x : List UInt8) : 0 < (toldN n ds x).length ∧ (toldN n ds x).length ≤ 22 := by
  have := told_bound 21 n ds x [x]
  exact ⟨Nat.lt_of_lt_of_le (show 0 < 1 by decide) this.1, this.2⟩
/-! ### A row whose bytes are turned -/
def XrR (B : Nat) (w : World) (g m c : Nat) : Prop := ∃ xs : List UInt8, w.ownsRow B 29 32 (.slice (some ⟨g, 0, none⟩) m c) m (bs xs)
theorem XrR.of {B : Nat} {w : World} {g m c : Nat} {ds : List (List UInt8)} (h : OwD B w (.slice (some ⟨g, 0, none⟩) m c) ds) : XrR B w g m c := by
  have hm : m = ds.length := by
    rcases h.1.2 with ⟨e, _⟩ | ⟨_, _, _, e, _⟩
    · cases e
    · injection e
  subst hm
  exact ⟨_, h.1⟩
theorem XrR.cell {B : Nat} {w : World} {g m c : Nat} (h : XrR B w g m c) {k : Nat} (hk : k < m) : ∃ b : UInt8, w.cell? ⟨g, k * 32, none⟩ = some (.int .u8 (c8 b)) ∧ w.frozen? ⟨g, k * 32, none⟩ = false ∧ ∀ y : UInt8, XrR B (w.setCell ⟨g, k * 32, none⟩ (.int .u8 (c8 y))) g m c := by
  obtain ⟨xs, h⟩ := h
  have hl : xs.length = m * 32 := by have := h.1; rwa [bs_length] at this
  refine ⟨xs.getD (k * 32) 0, ?_, h.frozenAt _, fun y => ⟨xs.set (k * 32) y, ?_⟩⟩
  · rw [h.cellAt _ (by omega), bs_get _ (by omega)]
  · have := (h.stored (k * 32) (.int .u8 (c8 y))).1
    have e : bs (xs.set (k * 32) y) = (bs xs).set (k * 32) (.int .u8 (c8 y)) := by simp [bs, List.map_set]
    rw [e]; exact this
theorem XrR.ext {B : Nat} {w w' : World} {g m c : Nat} (h : XrR B w g m c) (hb : Below w.heap.size w w') : XrR B w' g m c := by
  obtain ⟨xs, h⟩ := h
  exact ⟨xs, own_below h hb⟩
theorem xor1 (y : UInt8) : bits .xor .u8 (c8 y) 1 = c8 (y ^^^ 1) := by
  have : ∀ n : Fin 256, bits .xor .u8 (n.val : Int) 1 = c8 (UInt8.ofNat n.val ^^^ 1) := by decide +kernel
  have h := this ⟨y.toNat, y.toNat_lt⟩
  simp only [UInt8.ofNat_toNat] at h
  exact h
/-- 'append' of digests, of none too. -/
theorem wp_apD_any (dt : Option Tmp) {w : World} {o : Oper} {a : Act} {K : Act → World → Prop} {Q : Exit → Act → World → Prop}
    (s x : Operand) (hop : o.op = Op.call { callee := Callee.builtin Builtin.append, args := #[s, x], argTypes := #[30, 30] }) (ht : o.dst = dt)
    {B : Nat} {v vx : Value} {xs ys : List (List UInt8)} (hs : a.eval s = v) (hown : OwD B w v xs) (hx : a.eval x = vx) (hsrc : SlD w vx ys)
    (hlen : xs.length + ys.length ≤ 1099511627776) (hB : B ≤ w.heap.size)
    (hK : ∀ v' w', OwD B w' v' (xs ++ ys) → w.grownBy w' v.ownBlock → K (a.put dt v') w') : o.wp Try.prog a w K Q := by
  subst ht
  obtain ⟨⟨A, c, rfl, hc, hcm, hA, hr⟩, h32⟩ := hsrc
  obtain ⟨i, hi, hz0, hz1, hz2⟩ := info_parts infoD
  cases A with
  | none =>
    obtain rfl : c = 0 := hA rfl
    have h0 : ys.length = 0 := by omega
    obtain rfl : ys = [] := List.eq_nil_of_length_eq_zero h0
    have hr := run_append_owned_none (P := Try.prog) (w := w) B 30 o.type 29 i 32 Try.underlying30 hi v xs.length (bs xs.flatten) hown.1
    unfold Oper.wp execOp
    change a.eval x = .slice none 0 0 at hx
    simp only [hop, resolve, invoke, builtin, Sem.run_bind, Sem.run_pure, Result.andThen_ok, List.map_toArray, List.map_cons, List.map_nil, hs, hx, hr]
    exact hK v w (by rw [List.append_nil]; exact hown) (World.grownBy.refl _ _)
  | some ad =>
    refine wp_append_own w s x 30 hop B 29 i _ 32 32 Try.underlying30 hi hz0 hz1 hz2 (by simp [dg, Value.cells, bs_length, zer_length]) (by decide) v xs.length (bs xs.flatten) hs hown.1 ad ys.length c (bs ys.flatten) hx (by rw [bs_length, h32.flat]) hr.some_ (bs_one _) (by unfold maxLen; omega) (by omega) hB ?_
    intro v' w' ho hgr _
    refine hK v' w' ⟨?_, hown.2.append h32⟩ hgr
    rw [List.length_append, flat_append]; exact ho
end Go.Proofs.Ytcaaeimcieooiaa
