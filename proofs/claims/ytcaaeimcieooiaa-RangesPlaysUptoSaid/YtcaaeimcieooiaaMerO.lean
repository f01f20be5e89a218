/- Slices of digests that are the call's own; slices of such slices. -/
import Derived.Test.YtcaaeimcieooiaaMerD
import Derived.Test.YtcaaeimcieooiaaAt
import Derived.Great.BuildSlice
set_option linter.unusedVariables false
set_option linter.unusedSimpArgs false
namespace Go.Proofs.Ytcaaeimcieooiaa
open Go.RowKit

theorem infoD : (Try.prog.info? 29).map (fun i => (i.zero, i.size, i.bytes)) = some (some (dg zer), 32, 32) := by kernel_rfl
/-- An own slice of these digests. -/
def OwD (B : Nat) (w : World) (v : Value) (ds : List (List UInt8)) : Prop := w.ownsRow B 29 32 v ds.length (bs ds.flatten) ∧ All32 ds
theorem OwD.sl {B : Nat} {w : World} {v : Value} {ds : List (List UInt8)} (h : OwD B w v ds) : SlD w v ds := ⟨sl_of_own h.1, h.2⟩
theorem OwD.below {B : Nat} {w w' : World} {v : Value} {ds : List (List UInt8)} (h : OwD B w v ds) (hb : Below w.heap.size w w') : OwD B w' v ds := ⟨own_below h.1 hb, h.2⟩
theorem OwD.nil (B : Nat) (w : World) : OwD B w (.slice none 0 0) [] := ⟨World.ownsRow_nil _ _ _ _, fun d hd => by cases hd⟩
theorem OwD.mono {B B' : Nat} {w : World} {v : Value} {ds : List (List UInt8)} (h : OwD B w v ds) (hb : B' ≤ B) : OwD B' w v ds := ⟨own_weaken h.1 hb, h.2⟩
theorem OwD.lt {B : Nat} {w : World} {v : Value} {ds : List (List UInt8)} (h : OwD B w v ds) : ∀ k, v.ownBlock = some k → B ≤ k ∧ k < w.heap.size := World.ownsRow.lt h.1
theorem OwD.kept {B : Nat} {w w' : World} {v : Value} {ds : List (List UInt8)} {row : Option Nat} (h : OwD B w v ds) (hg : w.grownBy w' row) (hne : v.ownBlock = none ∨ v.ownBlock ≠ row) : OwD B w' v ds := ⟨World.ownsRow.kept h.1 hg hne, h.2⟩
theorem OwD.some {B : Nat} {w : World} {v : Value} {ds : List (List UInt8)} (h : OwD B w v ds) (hn : 0 < ds.length) : ∃ g c, v = .slice (some ⟨g, 0, none⟩) ds.length c ∧ B ≤ g ∧ g < w.heap.size := by
  rcases h.1.2 with ⟨e, h0⟩ | ⟨g, cap, cur, e, hb, hg, _⟩
  · omega
  · exact ⟨g, cap, e, hb, (Array.getElem?_eq_some_iff.1 hg).1⟩
theorem flat_append (ds es : List (List UInt8)) : bs (ds ++ es).flatten = bs ds.flatten ++ bs es.flatten := by rw [List.flatten_append, bs_append]
/-- 'append' of digests onto an own slice. -/
theorem wpl_apD {w : World} {ops : Array Oper} {rest : List Oper} {o : Oper} {a : Act} {Q : Exit → Act → World → Prop}
    (hg : o.guard = none) (s x : Operand) (hop : o.op = Op.call { callee := Callee.builtin Builtin.append, args := #[s, x], argTypes := #[30, 30] })
    {B : Nat} {v vx : Value} {xs ys : List (List UInt8)} (hs : a.eval s = v) (hown : OwD B w v xs) (hx : a.eval x = vx) (hsrc : SlD w vx ys)
    (hlen : xs.length + ys.length ≤ 1099511627776) (hB : B ≤ w.heap.size)
    (hK : ∀ v' w', OwD B w' v' (xs ++ ys) → w.grownBy w' v.ownBlock → Below B w w' → wpList Try.prog ops Q rest (a.put o.dst v') w') : wpList Try.prog ops Q (o :: rest) a w := by
  obtain ⟨⟨A, c, rfl, hc, hcm, hA, hr⟩, h32⟩ := hsrc
  refine wpl_ap_own (size := 32) (bytes := 32) (base := B) w hg s x 30 hop Try.underlying30 infoD (by simp [dg, Value.cells, bs_length, zer_length]) (by decide) hs hown.1 (bs ys.flatten) hx hA hc (by rw [bs_length, h32.flat]) hr (bs_one _) (by omega) (by omega) hB ?_
  intro v' w' ho hgr
  refine hK v' w' ⟨?_, hown.2.append h32⟩ hgr (Below.grown (Below.refl _ _) hgr hB (fun k hk => (World.ownsRow.lt hown.1 k hk).1))
  rw [List.length_append, flat_append]; exact ho
/-- The same, as one operation. -/
theorem wp_apD {w : World} {o : Oper} {a : Act} {K : Act → World → Prop} {Q : Exit → Act → World → Prop}
    (s x : Operand) (hop : o.op = Op.call { callee := Callee.builtin Builtin.append, args := #[s, x], argTypes := #[30, 30] })
    {B : Nat} {v vx : Value} {xs ys : List (List UInt8)} (hs : a.eval s = v) (hown : OwD B w v xs) (hx : a.eval x = vx) (hsrc : SlD w vx ys) (hne : ys ≠ [])
    (hlen : xs.length + ys.length ≤ 1099511627776) (hB : B ≤ w.heap.size)
    (hK : ∀ v' w', OwD B w' v' (xs ++ ys) → w.grownBy w' v.ownBlock → Below B w w' → K (a.put o.dst v') w') : o.wp Try.prog a w K Q := by
  obtain ⟨⟨A, c, rfl, hc, hcm, hA, hr⟩, h32⟩ := hsrc
  obtain ⟨i, hi, hz0, hz1, hz2⟩ := info_parts infoD
  cases A with
  | none =>
    have := hr.none_
    have hl : (bs ys.flatten).length = 0 := by rw [this]; rfl
    rw [bs_length, h32.flat] at hl
    exact absurd (List.eq_nil_of_length_eq_zero (by omega)) hne
  | some ad =>
    refine wp_append_own w s x 30 hop B 29 i _ 32 32 Try.underlying30 hi hz0 hz1 hz2 (by simp [dg, Value.cells, bs_length, zer_length]) (by decide) v xs.length (bs xs.flatten) hs hown.1 ad ys.length c (bs ys.flatten) hx (by rw [bs_length, h32.flat]) hr.some_ (bs_one _) (by unfold maxLen; omega) (by omega) hB ?_
    intro v' w' ho hgr _
    refine hK v' w' ⟨?_, hown.2.append h32⟩ hgr (Below.grown (Below.refl _ _) hgr hB (fun k hk => (World.ownsRow.lt hown.1 k hk).1))
    rw [List.length_append, flat_append]; exact ho
/-- One digest in new memory, as a slice. -/
theorem slD_one (w : World) (x : List UInt8) (t : TypeId) (hx : x.length = 32) : SlD (w.alloc (.cells (bs x).toArray t (0, 0))) (.slice (some ⟨w.heap.size, 0, none⟩) 1 1) [x] := by
  refine ⟨⟨_, _, rfl, Nat.le_refl _, by omega, by simp, ?_⟩, fun d hd => by rw [List.mem_singleton.1 hd]; exact hx⟩
  simp only [List.flatten_cons, List.flatten_nil, List.append_nil]
  exact rc_lit w x t (0, 0)
theorem flatMap_cells (ds : List (List UInt8)) : ((ds.map dg).flatMap fun v => v.cells.toList) = bs ds.flatten := by
  induction ds with
  | nil => rfl
  | cons d r ih =>
    rw [List.map_cons, List.flatMap_cons, ih, List.flatten_cons, bs_append]
    rfl
/-- A slice literal of digests. -/
theorem run_bDs (ds : List (List UInt8)) (hd : All32 ds) (h0 : 0 < ds.length) (hn : ds.length ≤ 65536) (parts : Array (Nat × Value)) (hp : parts.toList = ((ds.map dg).zipIdx 0).map fun x => (x.2, x.1)) (w : World) :
    (Instr.buildSlice 30 ds.length parts).run Try.prog w = .ok (.slice (.some ⟨w.heap.size, 0, none⟩) ds.length ds.length) (w.alloc (.cells (bs ds.flatten).toArray 29 (0, 0))) := by
  obtain ⟨i, hi, hz0, hz1, hz2⟩ := info_parts infoD
  refine run_buildSlice w 30 29 ds.length parts _ i (dg zer) Try.underlying30 hi hz0 (by rw [hz1]; omega) (by rw [hz1]; omega) ?_
  rw [hz1, hp]
  rw [Great.fill_whole (s := 32) (by decide) (ds.map dg) _ (fun v hv => ?_) (by simp)]
  · rw [flatMap_cells]
  · obtain ⟨d, hd', rfl⟩ := List.mem_map.1 hv
    show (bs d).toArray.size = 32
    rw [List.size_toArray, bs_length, hd d hd']
theorem run_bD (x : List UInt8) (hx : x.length = 32) (w : World) :
    (Instr.buildSlice 30 1 #[(0, dg x)]).run Try.prog w = .ok (.slice (.some ⟨w.heap.size, 0, none⟩) 1 1) (w.alloc (.cells (bs x).toArray 29 (0, 0))) := by
  have h := run_bDs [x] (fun d hd => by rw [List.mem_singleton.1 hd]; exact hx) (by simp) (by simp) #[(0, dg x)] rfl w
  simpa using h
theorem at_bs {P : Program} {ops : Array Oper} {Q : Exit → Act → World → Prop} {rest : List Oper} {a : Act} {w : World} {d : Option Tmp} {t ty : TypeId} {n : Nat} {x : Array (Nat × Operand)} {p : String} {af : Array Edge} {g : Option (Nat × Bool)}
    (h : wpList P ops Q ({ dst := d, op := .buildSlice t n x, type := ty, pos := p, after := af, guard := g } :: rest) a w) : wpList P ops Q ({ dst := d, op := .buildSlice t n x, type := ty, pos := p, after := af, guard := g } :: rest) a w := h
theorem wp_bD {o : Oper} {a : Act} {w : World} {K : Act → World → Prop} {Q : Exit → Act → World → Prop} {x : List UInt8} (hx : x.length = 32) (y : Operand) (ho : o.op = .buildSlice 30 1 #[(0, y)]) (hy : a.eval y = dg x)
    (h : K (a.put o.dst (.slice (.some ⟨w.heap.size, 0, none⟩) 1 1)) (w.alloc (.cells (bs x).toArray 29 (0, 0)))) : o.wp Try.prog a w K Q := by
  have hr := run_bD x hx w
  unfold Oper.wp execOp
  simp only [ho, List.map_toArray, List.map_cons, List.map_nil, hy, Sem.run_bind, hr, Result.andThen_ok]
  exact h
theorem wpl_bD {ops : Array Oper} {rest : List Oper} {o : Oper} {a : Act} {w : World} {Q : Exit → Act → World → Prop} (hg : o.guard = none) {x : List UInt8} (hx : x.length = 32) (y : Operand) (ho : o.op = .buildSlice 30 1 #[(0, y)]) (hy : a.eval y = dg x)
    (h : wpList Try.prog ops Q rest (a.put o.dst (.slice (.some ⟨w.heap.size, 0, none⟩) 1 1)) (w.alloc (.cells (bs x).toArray 29 (0, 0)))) : wpList Try.prog ops Q (o :: rest) a w :=
  wpList_plain hg fun _ hK => wp_bD hx y ho hy (hK _ _ h)
theorem wpl_bDs {ops : Array Oper} {rest : List Oper} {o : Oper} {a : Act} {w : World} {Q : Exit → Act → World → Prop} (hg : o.guard = none) (ds : List (List UInt8)) (hd : All32 ds) (h0 : 0 < ds.length) (hn : ds.length ≤ 65536) (ys : Array (Nat × Operand)) (n : Nat) (hnn : n = ds.length) (ho : o.op = .buildSlice 30 n ys)
    (hy : (ys.map fun (i, x) => (i, a.eval x)).toList = ((ds.map dg).zipIdx 0).map fun x => (x.2, x.1))
    (h : wpList Try.prog ops Q rest (a.put o.dst (.slice (.some ⟨w.heap.size, 0, none⟩) n n)) (w.alloc (.cells (bs ds.flatten).toArray 29 (0, 0)))) : wpList Try.prog ops Q (o :: rest) a w := by
  subst hnn
  refine wpList_plain hg fun K hK => ?_
  have hr := run_bDs ds hd h0 hn _ hy w
  unfold Oper.wp execOp
  simp only [ho, Sem.run_bind, hr, Result.andThen_ok]
  exact hK _ _ h
theorem slD_lit (w : World) (ds : List (List UInt8)) (t : TypeId) (hd : All32 ds) (hn : ds.length ≤ 65536) : SlD (w.alloc (.cells (bs ds.flatten).toArray t (0, 0))) (.slice (.some ⟨w.heap.size, 0, none⟩) ds.length ds.length) ds :=
  ⟨⟨_, _, rfl, Nat.le_refl _, by omega, by simp, rc_lit w ds.flatten t (0, 0)⟩, hd⟩
theorem Arr8.exAt {t : TypeId} {n : Nat} (T : Arr8 t n) {o : Oper} {a : Act} {w : World} {x : List UInt8} {ad : Addr} (hB : RdB w (some ad) x) (hx : x.length = n) (p : Operand) (ho : o.op = .load t p) (hp : a.eval p = .pointer (some ad)) :
    (execOp a.eval o).run Try.prog w = .ok (.value (dg x)) w := by
  unfold execOp
  simp only [ho, hp, Instr.loadAt, Instr.sureAddr, Sem.run_bind, Sem.run_pure, Result.andThen_ok, T.loadAt hB hx]

end Go.Proofs.Ytcaaeimcieooiaa
