/- Slices of digests that are the call's own; slices of such slices. -/
import Derived.Test.YtidgomppehhkgaaMerD
import Derived.Test.YtidgomppehhkgaaAt
import Derived.Great.BuildSlice
set_option linter.unusedVariables false
set_option linter.unusedSimpArgs false
namespace Go.Proofs.Ytidgomppehhkgaa
open Go.RowKit

theorem infoD : (Try.prog.info? 25).map (fun i => (i.zero, i.size, i.bytes)) = some (some (dg zer), 32, 32) := by kernel_rfl
/-- An own slice of these digests. -/
def OwD (B : Nat) (w : World) (v : Value) (ds : List (List UInt8)) : Prop := w.ownsRow B 25 32 v ds.length (bs ds.flatten) ∧ All32 ds
theorem OwD.sl {B : Nat} {w : World} {v : Value} {ds : List (List UInt8)} (h : OwD B w v ds) : SlD w v ds := ⟨sl_of_own h.1, h.2⟩
theorem OwD.below {B : Nat} {w w' : World} {v : Value} {ds : List (List UInt8)} (h : OwD B w v ds) (hb : Below w.heap.size w w') : OwD B w' v ds := ⟨own_below h.1 hb, h.2⟩
theorem OwD.nil (B : Nat) (w : World) : OwD B w (.slice none 0 0) [] := ⟨World.ownsRow_nil _ _ _ _, fun d hd => by cases hd⟩
theorem OwD.mono {B B' : Nat} {w : World} {v : Value} {ds : List (List UInt8)} (h : OwD B w v ds) (hb : B' ≤ B) : OwD B' w v ds := ⟨own_weaken h.1 hb, h.2⟩
theorem OwD.lt {B : Nat} {w : World} {v : Value} {ds : List (List UInt8)} (h : OwD B w v ds) : ∀ k, v.ownBlock = some k → B ≤ k ∧ k < w.heap.size := World.ownsRow.lt h.1
theorem OwD.kept {B : Nat} {w w' : World} {v : Value} {ds : List (List UInt8)} {row : Option Nat} (h : OwD B w v ds) (hg : w.grownBy w' row) (hne : v.ownBlock = none ∨ v.ownBlock ≠ row) : OwD B w' v ds := ⟨World.ownsRow.kept h.1 hg hne, h.2⟩
theorem OwD.some {B : Nat} {w : World} {v : Value} {ds : List (List UInt8)} (h : OwD B w v ds) (hn : 0 < ds.length) : ∃ g c, v = .slice (some ⟨g, 0, none⟩) ds.length c ∧ B ≤ g ∧ g < w.heap.size := by
  rcases h.1.2 with ⟨e, h0⟩ | ⟨g, cap, cur, e, hb, hg, _⟩
  · omega
  · exact ⟨g, cap, e, hb, (Array.getElem?_eq_some_iff.1 hg).1⟩
theorem flat_append (ds es : List (List UInt8)) : bs (ds ++ es).flatten = bs ds.flatten ++ bs es.flatten := by rw [List.flatten_append, bs_append]
/-- 'append' of digests onto an own slice. -/
theorem wpl_apD {w : World} {ops : Array Oper} {rest : List Oper} {o : Oper} {a : Act} {Q : Exit → Act → World → Prop}
    (hg : o.guard = none) (s x : Operand) (hop : o.op = Op.call { callee := Callee.builtin Builtin.append, args := #[s, x], argTypes := #[22, 22] })
    {B : Nat} {v vx : Value} {xs ys : List (List UInt8)} (hs : a.eval s = v) (hown : OwD B w v xs) (hx : a.eval x = vx) (hsrc : SlD w vx ys)
    (hlen : xs.length + ys.length ≤ 1099511627776) (hB : B ≤ w.heap.size)
    (hK : ∀ v' w', OwD B w' v' (xs ++ ys) → w.grownBy w' v.ownBlock → Below B w w' → wpList Try.prog ops Q rest (a.put o.dst v') w') : wpList Try.prog ops Q (o :: rest) a w := by
  obtain ⟨⟨A, c, rfl, hc, hcm, hA, hr⟩, h32⟩ := hsrc
  refine wpl_ap_own (size := 32) (bytes := 32) (base := B) w hg s x 22 hop Try.underlying22 infoD (by simp [dg, Value.cells, bs_length, zer_length]) (by decide) hs hown.1 (bs ys.flatten) hx hA hc (by rw [bs_length, h32.flat]) hr (bs_one _) (by omega) (by omega) hB ?_
  intro v' w' ho hgr
  refine hK v' w' ⟨?_, hown.2.append h32⟩ hgr (Below.grown (Below.refl _ _) hgr hB (fun k hk => (World.ownsRow.lt hown.1 k hk).1))
  rw [List.length_append, flat_append]; exact ho
/-- The same, as one operation. -/
theorem wp_apD {w : World} {o : Oper} {a : Act} {K : Act → World → Prop} {Q : Exit → Act → World → Prop}
    (s x : Operand) (hop : o.op = Op.call { callee := Callee.builtin Builtin.append, args := #[s, x], argTypes := #[22, 22] })
    {B : Nat} {v vx : Value} {xs ys : List (List UInt8)} (hs : a.eval s = v) (hown : OwD B w v xs) (hx : a.eval x = vx) (hsrc : SlD w vx ys) (hne : ys ≠ [])
    (hlen : xs.length + ys.length ≤ 1099511627776) (hB : B ≤ w.heap.size)
    (hK : ∀ v' w', OwD B w' v' (xs ++ ys) → w.grownBy w' v.ownBlock → Below B w w' → K (a.put o.dst v') w') : o.wp Try.prog a w K Q := by
  obtain ⟨⟨A, c, rfl, hc, hcm, hA, hr⟩, h32⟩ := hsrc
  obtain ⟨i, hi, hz0, hz1, hz2⟩ := info_parts infoD
  cases A with
  | none =>
    have := hr.none_
    have hl : (bs ys.flatten).length = 0 := by rw [this]; rfl
    rw [bs_length, h32.flat] at hl
    exact absurd (List.eq_nil_of_length_eq_zero (by omega)) hne
  | some ad =>
    refine wp_append_own w s x 22 hop B 25 i _ 32 32 Try.underlying22 hi hz0 hz1 hz2 (by simp [dg, Value.cells, bs_length, zer_length]) (by decide) v xs.length (bs xs.flatten) hs hown.1 ad ys.length c (bs ys.flatten) hx (by rw [bs_length, h32.flat]) hr.some_ (bs_one _) (by unfold maxLen; omega) (by omega) hB ?_
    intro v' w' ho hgr _
    refine hK v' w' ⟨?_, hown.2.append h32⟩ hgr (Below.grown (Below.refl _ _) hgr hB (fun k hk => (World.ownsRow.lt hown.1 k hk).1))
    rw [List.length_append, flat_append]; exact ho
/-- One digest in new memory, as a slice. -/
theorem slD_one (w : World) (x : List UInt8) (t : TypeId) (hx : x.length = 32) : SlD (w.alloc (.cells (bs x).toArray t (0, 0))) (.slice (some ⟨w.heap.size, 0, none⟩) 1 1) [x] := by
  refine ⟨⟨_, _, rfl, Nat.le_refl _, by omega, by simp, ?_⟩, fun d hd => by rw [List.mem_singleton.1 hd]; exact hx⟩
  simp only [List.flatten_cons, List.flatten_nil, List.append_nil]
  exact rc_lit w x t (0, 0)
theorem flatMap_cells (ds : List (List UInt8)) : ((ds.map dg).flatMap fun v => v.cells.toList) = bs ds.flatten := by
  induction ds with
  | nil => rfl
  | cons d r ih =>
    rw [List.map_cons, List.flatMap_cons, ih, List.flatten_cons, bs_append]
    rfl
/-- A slice literal of digests. -/
theorem run_bDs (ds : List (List UInt8)) (hd : All32 ds) (h0 : 0 < ds.length) (hn : ds.length ≤ 65536) (parts : Array (Nat × Value)) (hp : parts.toList = ((ds.map dg).zipIdx 0).map fun x => (x.2, x.1)) (w : World) :
    (Instr.buildSlice 22 ds.length parts).run Try.prog w = .ok (.slice (.some ⟨w.heap.size, 0, none⟩) ds.length ds.length) (w.alloc (.cells (bs ds.flatten).toArray 25 (0, 0))) := by
  obtain ⟨i, hi, hz0, hz1, hz2⟩ := info_parts infoD
  refine run_buildSlice w 22 25 ds.length parts _ i (dg zer) Try.underlying22 hi hz0 (by rw [hz1]; omega) (by rw [hz1]; omega) ?_
  rw [hz1, hp]
  rw [Great.fill_whole (s := 32) (by decide) (ds.map dg) _ (fun v hv => ?_) (by simp)]
  · rw [flatMap_cells]
  · obtain ⟨d, hd', rfl⟩ := List.mem_map.1 hv
    show (bs d).toArray.size = 32
    rw [List.size_toArray, bs_length, hd d hd']
theorem run_bD (x : List UInt8) (hx : x.length = 32) (w : World) :
    (Instr.buildSlice 22 1 #[(0, dg x)]).run Try.prog w = .ok (.slice (.some ⟨w.heap.size, 0, none⟩) 1 1) (w.alloc (.cells (bs x).toArray 25 (0, 0))) := by
  have h := run_bDs [x] (fun d hd => by rw [List.mem_singleton.1 hd]; exact hx) (by simp) (by simp) #[(0, dg x)] rfl w
  simpa using h
theorem at_bs {P : Program} {ops : Array Oper} {Q : Exit → Act → World → Prop} {rest : List Oper} {a : Act} {w : World} {d : Option Tmp} {t ty : TypeId} {n : Nat} {x : Array (Nat × Operand)} {p : String} {af : Array Edge} {g : Option (Nat × Bool)}
    (h : wpList P ops Q ({ dst := d, op := .buildSlice t n x, type := ty, pos := p, after := af, guard := g } :: rest) a w) : wpList P ops Q ({ dst := d, op := .buildSlice t n x, type := ty, pos := p, after := af, guard := g } :: rest) a w := h
theorem wp_bD {o : Oper} {a : Act} {w : World} {K : Act → World → Prop} {Q : Exit → Act → World → Prop} {x : List UInt8} (hx : x.length = 32) (y : Operand) (ho : o.op = .buildSlice 22 1 #[(0, y)]) (hy : a.eval y = dg x)
    (h : K (a.put o.dst (.slice (.some ⟨w.heap.size, 0, none⟩) 1 1)) (w.alloc (.cells (bs x).toArray 25 (0, 0)))) : o.wp Try.prog a w K Q := by
  have hr := run_bD x hx w
  unfold Oper.wp execOp
  simp only [ho, List.map_toArray, List.map_cons, List.map_nil, hy, Sem.run_bind, hr, Result.andThen_ok]
  exact h
theorem wpl_bD {ops : Array Oper} {rest : List Oper} {o : Oper} {a : Act} {w : World} {Q : Exit → Act → World → Prop} (hg : o.guard = none) {x : List UInt8} (hx : x.length = 32) (y : Operand) (ho : o.op = .buildSlice 22 1 #[(0, y)]) (hy : a.eval y = dg x)
    (h : wpList Try.prog ops Q rest (a.put o.dst (.slice (.some ⟨w.heap.size, 0, none⟩) 1 1)) (w.alloc (.cells (bs x).toArray 25 (0, 0)))) : wpList Try.prog ops Q (o :: rest) a w :=
  wpList_plain hg fun _ hK => wp_bD hx y ho hy (hK _ _ h)
theorem wpl_bDs {ops : Array Oper} {rest : List Oper} {o : Oper} {a : Act} {w : World} {Q : Exit → Act → World → Prop} (hg : o.guard = none) (ds : List (List UInt8)) (hd : All32 ds) (h0 : 0 < ds.length) (hn : ds.length ≤ 65536) (ys : Array (Nat × Operand)) (n : Nat) (hnn : n = ds.length) (ho : o.op = .buildSlice 22 n ys)
    (hy : (ys.map fun (i, x) => (i, a.eval x)).toList = ((ds.map dg).zipIdx 0).map fun x => (x.2, x.1))
    (h : wpList Try.prog ops Q rest (a.put o.dst (.slice (.some ⟨w.heap.size, 0, none⟩) n n)) (w.alloc (.cells (bs ds.flatten).toArray 25 (0, 0)))) : wpList Try.prog ops Q (o :: rest) a w := by
  subst hnn
  refine wpList_plain hg fun K hK => ?_
  have hr := run_bDs ds hd h0 hn _ hy w
  unfold Oper.wp execOp
  simp only [ho, Sem.run_bind, hr, Result.andThen_ok]
  exact hK _ _ h
theorem slD_lit (w : World) (ds : List (List UInt8)) (t : TypeId) (hd : All32 ds) (hn : ds.length ≤ 65536) : SlD (w.alloc (.cells (bs ds.flatten).toArray t (0, 0))) (.slice (.some ⟨w.heap.size, 0, none⟩) ds.length ds.length) ds :=
  ⟨⟨_, _, rfl, Nat.le_refl _, by omega, by simp, rc_lit w ds.flatten t (0, 0)⟩, hd⟩
theorem Arr8.exAt {t : TypeId} {n : Nat} (T : Arr8 t n) {o : Oper} {a : Act} {w : World} {x : List UInt8} {ad : Addr} (hB : RdB w (some ad) x) (hx : x.length = n) (p : Operand) (ho : o.op = .load t p) (hp : a.eval p = .pointer (some ad)) :
    (execOp a.eval o).run Try.prog w = .ok (.value (dg x)) w := by
  unfold execOp
  simp only [ho, hp, Instr.loadAt, Instr.sureAddr, Sem.run_bind, Sem.run_pure, Result.andThen_ok, T.loadAt hB hx]

/-! ### Slices of slices -/
/-- An own slice of these values. -/
def OwL (B : Nat) (w : World) (v : Value) (vs : List Value) : Prop := w.ownsRow B 22 1 v vs.length vs
theorem infoL : (Try.prog.info? 22).map (fun i => (i.zero, i.size, i.bytes)) = some (some (.slice none 0 0), 1, 24) := by kernel_rfl
theorem OwL.nil (B : Nat) (w : World) : OwL B w (.slice none 0 0) [] := World.ownsRow_nil _ _ _ _
theorem OwL.sl {B : Nat} {w : World} {v : Value} {vs : List Value} (h : OwL B w v vs) : Sl w v vs.length vs := sl_of_own h
theorem OwL.below {B : Nat} {w w' : World} {v : Value} {vs : List Value} (h : OwL B w v vs) (hb : Below w.heap.size w w') : OwL B w' v vs := own_below h hb
theorem OwL.kept {B : Nat} {w w' : World} {v : Value} {vs : List Value} {row : Option Nat} (h : OwL B w v vs) (hg : w.grownBy w' row) (hne : v.ownBlock = none ∨ v.ownBlock ≠ row) : OwL B w' v vs := World.ownsRow.kept h hg hne
theorem OwL.mono {B B' : Nat} {w : World} {v : Value} {vs : List Value} (h : OwL B w v vs) (hb : B' ≤ B) : OwL B' w v vs := own_weaken h hb
/-- 'append' of one slice onto such a slice. -/
theorem wpl_apL {w : World} {ops : Array Oper} {rest : List Oper} {o : Oper} {a : Act} {Q : Exit → Act → World → Prop}
    (hg : o.guard = none) (s x : Operand) (hop : o.op = Op.call { callee := Callee.builtin Builtin.append, args := #[s, x], argTypes := #[32, 32] })
    {B : Nat} {v vx : Value} {xs ys : List Value} (hs : a.eval s = v) (hown : OwL B w v xs) (hx : a.eval x = vx) (hsrc : Sl w vx ys.length ys) (h1 : ∀ u ∈ ys, u.oneCell' = true)
    (hlen : xs.length + ys.length ≤ 1099511627776) (hB : B ≤ w.heap.size)
    (hK : ∀ v' w', OwL B w' v' (xs ++ ys) → w.grownBy w' v.ownBlock → Below B w w' → wpList Try.prog ops Q rest (a.put o.dst v') w') : wpList Try.prog ops Q (o :: rest) a w := by
  obtain ⟨A, c, rfl, hc, hcm, hA, hr⟩ := hsrc
  refine wpl_ap_own (size := 1) (bytes := 24) (base := B) w hg s x 32 hop Try.underlying32 infoL rfl (by decide) hs hown ys hx hA hc (by omega) hr h1 (by omega) (by omega) hB ?_
  intro v' w' ho hgr
  refine hK v' w' ?_ hgr (Below.grown (Below.refl _ _) hgr hB (fun k hk => (World.ownsRow.lt hown k hk).1))
  unfold OwL; rw [List.length_append]; exact ho
/-- The block of a slice of slices is no block of digests. -/
theorem OwL.ne {B B' : Nat} {w : World} {v u : Value} {vs : List Value} {ds : List (List UInt8)} (h : OwL B w v vs) (k : OwD B' w u ds) : u.ownBlock = none ∨ u.ownBlock ≠ v.ownBlock := by
  rcases h.2 with ⟨e, _⟩ | ⟨g, cap, cur, e, _, hg, _⟩
  · rcases k.1.2 with ⟨e2, _⟩ | ⟨g2, cap2, cur2, e2, _, hg2, _⟩
    · left; rw [e2]; rfl
    · right; rw [e2, e]; simp [Value.ownBlock]
  · rcases k.1.2 with ⟨e2, _⟩ | ⟨g2, cap2, cur2, e2, _, hg2, _⟩
    · left; rw [e2]; rfl
    · right
      rw [e2, e]
      simp only [Value.ownBlock, ne_eq, Option.some.injEq]
      intro hc
      rw [hc, hg] at hg2
      simp at hg2
theorem OwL.ne' {B B' : Nat} {w : World} {v u : Value} {vs : List Value} {ds : List (List UInt8)} (h : OwL B w v vs) (k : OwD B' w u ds) : v.ownBlock = none ∨ v.ownBlock ≠ u.ownBlock := by
  rcases h.ne k with e | e
  · cases hv : v.ownBlock with
    | none => exact .inl rfl
    | some g => right; rw [e]; simp
  · exact .inr e.symm
theorem OwL.some {B : Nat} {w : World} {v : Value} {vs : List Value} (h : OwL B w v vs) (hn : 0 < vs.length) : ∃ g c, v = .slice (.some ⟨g, 0, none⟩) vs.length c ∧ B ≤ g ∧ g < w.heap.size ∧ ∀ j u, vs[j]? = .some u → w.cell? ⟨g, j, none⟩ = .some u := by
  have h2 := h.2
  rcases h2 with ⟨e, h0⟩ | ⟨g, cap, cur, e, hb, hg, _⟩
  · omega
  · refine ⟨g, cap, e, hb, (Array.getElem?_eq_some_iff.1 hg).1, fun j u hj => ?_⟩
    have := World.ownsRow.cells h (g := g) (by rw [e]; rfl) j u hj
    rwa [Addr.add_lit, Nat.zero_add] at this
/-- Rows of digests, own, each in a block of its own. -/
structure Rws (B : Nat) (w : World) (vs : List Value) (dss : List (List (List UInt8))) : Prop where
  len : vs.length = dss.length
  own : ∀ (i : Nat) v ds, vs[i]? = some v → dss[i]? = some ds → OwD B w v ds ∧ 0 < ds.length
  ne : ∀ (i j : Nat) v u, i < j → vs[i]? = some v → vs[j]? = some u → v.ownBlock ≠ u.ownBlock
theorem Rws.nil (B : Nat) (w : World) : Rws B w [] [] := ⟨rfl, fun i v ds h => by simp at h, fun i j v u _ h => by simp at h⟩
theorem Rws.get {B : Nat} {w : World} {vs : List Value} {dss : List (List (List UInt8))} (h : Rws B w vs dss) {i : Nat} (hi : i < dss.length) : ∃ v, vs[i]? = some v ∧ OwD B w v (dss.getD i []) ∧ 0 < (dss.getD i []).length := by
  have hi' : i < vs.length := by rw [h.len]; exact hi
  refine ⟨vs[i], by simp [hi'], ?_⟩
  have := h.own i vs[i] (dss.getD i []) (by simp [hi']) (by simp [hi])
  exact this
theorem Rws.each {B : Nat} {w : World} {vs : List Value} {dss : List (List (List UInt8))} (h : Rws B w vs dss) {v : Value} (hv : v ∈ vs) : ∃ ds, OwD B w v ds ∧ 0 < ds.length := by
  obtain ⟨i, hi, e⟩ := List.getElem_of_mem hv
  have hi' : i < dss.length := by rw [← h.len]; exact hi
  obtain ⟨v', h1, h2, h3⟩ := h.get hi'
  have : v' = v := by rw [List.getElem?_eq_getElem hi] at h1; cases h1; exact e
  subst this
  exact ⟨_, h2, h3⟩
theorem Rws.kept {B : Nat} {w w' : World} {vs : List Value} {dss : List (List (List UInt8))} {row : Option Nat} (h : Rws B w vs dss) (hg : w.grownBy w' row) (hne : ∀ v ∈ vs, v.ownBlock = none ∨ v.ownBlock ≠ row) : Rws B w' vs dss :=
  ⟨h.len, fun i v ds h1 h2 => ⟨(h.own i v ds h1 h2).1.kept hg (hne v (List.mem_of_getElem? h1)), (h.own i v ds h1 h2).2⟩, h.ne⟩
theorem Rws.below {B : Nat} {w w' : World} {vs : List Value} {dss : List (List (List UInt8))} (h : Rws B w vs dss) (hb : Below w.heap.size w w') : Rws B w' vs dss :=
  ⟨h.len, fun i v ds h1 h2 => ⟨(h.own i v ds h1 h2).1.below hb, (h.own i v ds h1 h2).2⟩, h.ne⟩
theorem OwD.one {B : Nat} {w : World} {v : Value} {ds : List (List UInt8)} (h : OwD B w v ds) : v.oneCell' = true := by
  rcases h.1.2 with ⟨e, _⟩ | ⟨g, cap, cur, e, _⟩ <;> rw [e] <;> rfl
/-- One row more, made behind B' . -/
theorem Rws.snoc {B B' : Nat} {w : World} {vs : List Value} {dss : List (List (List UInt8))} {v : Value} {ds : List (List UInt8)} (h : Rws B w vs dss) (hB : B ≤ B') (hv : OwD B' w v ds) (hn : 0 < ds.length)
    (hlt : ∀ u ∈ vs, ∀ k, u.ownBlock = some k → k < B') : Rws B w (vs ++ [v]) (dss ++ [ds]) := by
  refine ⟨by simp [h.len], fun i u es h1 h2 => ?_, fun i j u u' hij h1 h2 => ?_⟩
  · by_cases hi : i < vs.length
    · rw [List.getElem?_append_left hi] at h1
      rw [List.getElem?_append_left (by rw [← h.len]; exact hi)] at h2
      exact h.own i u es h1 h2
    · have hl := (List.getElem?_eq_some_iff.1 h1).1
      have : i = vs.length := by simp at hl; omega
      subst this
      rw [List.getElem?_append_right (Nat.le_refl _), Nat.sub_self] at h1
      rw [h.len, List.getElem?_append_right (Nat.le_refl _), Nat.sub_self] at h2
      simp at h1 h2
      subst h1; subst h2
      exact ⟨hv.mono hB, hn⟩
  · have hl := (List.getElem?_eq_some_iff.1 h2).1
    simp at hl
    have hi : i < vs.length := by omega
    rw [List.getElem?_append_left hi] at h1
    by_cases hj : j < vs.length
    · rw [List.getElem?_append_left hj] at h2
      exact h.ne i j u u' hij h1 h2
    · have : j = vs.length := by omega
      subst this
      rw [List.getElem?_append_right (Nat.le_refl _), Nat.sub_self] at h2
      simp at h2
      subst h2
      obtain ⟨es, ho, hes⟩ := h.each (List.mem_of_getElem? h1)
      obtain ⟨g, c, e, _, _⟩ := ho.some hes
      obtain ⟨g2, c2, e2, hg2, _⟩ := hv.some hn
      have := hlt u (List.mem_of_getElem? h1) g (by rw [e]; rfl)
      rw [e, e2]
      simp only [Value.ownBlock, ne_eq, Option.some.injEq]
      omega
theorem Rws.lt {B : Nat} {w : World} {vs : List Value} {dss : List (List (List UInt8))} (h : Rws B w vs dss) : ∀ u ∈ vs, ∀ k, u.ownBlock = some k → k < w.heap.size := by
  intro u hu k hk
  obtain ⟨ds, ho, _⟩ := h.each hu
  exact (ho.lt k hk).2
theorem Rws.one {B : Nat} {w : World} {vs : List Value} {dss : List (List (List UInt8))} (h : Rws B w vs dss) : ∀ u ∈ vs, u.oneCell' = true := by
  intro u hu
  obtain ⟨ds, ho, _⟩ := h.each hu
  exact ho.one
end Go.Proofs.Ytidgomppehhkgaa
