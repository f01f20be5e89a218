/- found; the closure of Included: a leaf (walks). The closure of Included: where it stands; a leaf; no path (walks). -/
import Derived.Test.YtnpbapefjbfndaaZExtT
import Derived.Test.YtnpbapefjbfndaaZXd
set_option linter.unusedVariables false
set_option linter.unusedSimpArgs false
set_option maxRecDepth 10000
namespace Go.Proofs.Ytnpbapefjbfndaa
open Go.RowKit
attribute [local go_sem high] dg_cells guard_dg rs_l rs_lh rs_lhm rs_h rs_hm rs_all

/-- Block D holds one value. -/
def C1 (t : TypeId) (w : World) (D : Nat) (u : Value) : Prop := w.heap[D]? = some (.cells #[u] t (0, 0))
theorem C1.lt {t : TypeId} {w : World} {D : Nat} {u : Value} (h : C1 t w D u) : D < w.heap.size := (Array.getElem?_eq_some_iff.1 h).1
theorem C1.below {t : TypeId} {w w' : World} {D : Nat} {u : Value} (h : C1 t w D u) (hb : Below w.heap.size w w') : C1 t w' D u := (hb.block D h.lt).trans h
theorem C1.but {B F G : Nat} {t : TypeId} {w w' : World} {D : Nat} {u : Value} (h : C1 t w D u) (hb : But B F G w w') (hf : D ≠ F) (hg : D ≠ G) : C1 t w' D u := (hb.other D h.lt hf hg).trans h
theorem C1.cell {t : TypeId} {w : World} {D : Nat} {u : Value} (h : C1 t w D u) : w.cell? ⟨D, 0, none⟩ = some u ∧ w.frozen? ⟨D, 0, none⟩ = false := by
  refine ⟨?_, frozen_of_row _ _ _ _ _ h⟩
  rw [cell_of_row _ _ _ _ _ _ h]; rfl
theorem C1.set {t : TypeId} {w : World} {D : Nat} {u : Value} (h : C1 t w D u) (x : Value) : C1 t (w.setCell ⟨D, 0, none⟩ x) D x := by
  unfold C1 at h ⊢; rw [heap_setCell_same w D 0 _ _ _ h]; rfl
theorem C1.other {t : TypeId} {w : World} {D E j : Nat} {u : Value} (h : C1 t w D u) (hne : D ≠ E) (x : Value) : C1 t (w.setCell ⟨E, j, none⟩ x) D u := (Below.heap_setCell _ _ _ _ hne).trans h
theorem C1.row {t : TypeId} {w : World} {D E : Nat} {u : Value} (h : C1 t w D u) (hne : D ≠ E) (cs : Array Value) : C1 t (w.setRow E cs) D u := (heap_setRow_other w E D cs hne).trans h
/-- Of another block's cell a store leaves the finder as it is. -/
theorem FindAt.cell {w : World} {F g D j : Nat} {o : Option (List UInt8 × List UInt8)} {u : Value} (h : FindAt w F g o) (hD : C1 4 w D u) (x : Value) : FindAt (w.setCell ⟨D, j, none⟩ x) F g o := by
  have ne : ∀ {t u v P}, PR t w P u v → P ≠ D := fun hp e => by
    subst e; unfold PR at hp; unfold C1 at hD; rw [hD] at hp; injection hp with hp; injection hp with h1 _; have := congrArg Array.size h1; simp at this
  cases o with
  | none => exact PR.other_cell h (ne h) _
  | some q =>
    obtain ⟨P, va, vb, h1, h2, h3, h4⟩ := h
    exact ⟨P, va, vb, h1.other_cell (ne h1) _, h2.other_cell (ne h2) _, h3.cell_apart hD (by decide) _, h4.cell_apart hD (by decide) _⟩

set_option maxHeartbeats 4000000 in
theorem found_any (F g : Nat) (o : Option (List UInt8 × List UInt8)) (r : Bool) (w : World) (hF : FindAt w F g o) :
    Calls Try.prog 40 #[.pointer (some ⟨F, 0, none⟩), .bool r] w fun e w' => ∃ v, e = .returned (.tuple #[v, .bool (if r then o else none).isSome]) ∧ PairAt w' v (if r then o else none) ∧ Below w.heap.size w w' := by
  have hR0 : PR 30 (w.alloc (.cells #[.slice none 0 0, .slice none 0 0] 30)) w.heap.size (.slice none 0 0) (.slice none 0 0) := heap_alloc_new _ _
  have e0 := ext_alloc w (.cells #[.slice none 0 0, .slice none 0 0] 30)
  have hF0 := hF.below e0
  have c0 := hR0.c0
  by_cases hc : r = true ∧ o.isSome = true
  · obtain ⟨rfl, ho⟩ := hc
    obtain ⟨q, rfl⟩ := Option.isSome_iff_exists.1 ho
    obtain ⟨P, va, vb, h1, h2, h3, h4⟩ := hF
    obtain ⟨A, c, rfl, _⟩ := id h3.sl
    obtain ⟨A2, c2, rfl, _⟩ := id h4.sl
    have f1 := fun o => (h1.below (ext_alloc w o)).c1.1
    have hload := fun o => (h2.below (ext_alloc w o)).load rfl rfl
    have p0 := fun o => (h2.below (ext_alloc w o)).c0.1
    have p1 := fun o => (h2.below (ext_alloc w o)).c1.1
    have hR2 : PR 30 (w.alloc (.cells #[.slice A q.1.length c, .slice A2 q.2.length c2] 30)) w.heap.size _ _ := heap_alloc_new _ _
    have hret := hR2.load rfl rfl
    have e2 := ext_alloc w (.cells #[.slice A q.1.length c, .slice A2 q.2.length c2] 30)
    have h3' := h3.below e2
    have h4' := h4.below e2
    clear hR0 hR2 h1 h2 h3 h4 e0 ho hF0
    go_enter Try.func40, Try.ntmps40
    go_wp2_with fail
    exact ret_cell2 (v := .agg #[.slice A q.1.length c, .slice A2 q.2.length c2]) Try.results40 rfl hret rfl ⟨_, rfl, ⟨_, _, rfl, h3'.sl, h4'.sl⟩, e2⟩
  · have he : (if r then o else none) = none := by
      cases r <;> cases o <;> simp_all
    rw [he]
    have hret := hR0.load rfl rfl
    cases r with
    | false =>
      go_enter Try.func40, Try.ntmps40
      go_wp2_with fail
      exact ret_cell2 (v := .agg #[.slice none 0 0, .slice none 0 0]) Try.results40 rfl hret rfl ⟨_, rfl, ⟨_, _, rfl, slB_nil _, slB_nil _⟩, e0⟩
    | true =>
      cases o with
      | some q => exact absurd ⟨rfl, rfl⟩ hc
      | none =>
        have f1 := (PR.c1 hF0).1
        clear hF hF0
        go_enter Try.func40, Try.ntmps40
        go_wp2_with fail
        exact ret_cell2 (v := .agg #[.slice none 0 0, .slice none 0 0]) Try.results40 rfl hret rfl ⟨_, rfl, ⟨_, _, rfl, slB_nil _, slB_nil _⟩, e0⟩
end Go.Proofs.Ytnpbapefjbfndaa
set_option linter.unusedVariables false
set_option linter.unusedSimpArgs false
set_option maxRecDepth 10000
namespace Go.Proofs.Ytnpbapefjbfndaa
open Go.RowKit
attribute [local go_sem high] dg_cells guard_dg rs_l rs_lh rs_lhm rs_h rs_hm rs_all

def upv (G FB LB UB : Nat) : Value := .func (.func 36) #[] #[.pointer (some ⟨G, 0, none⟩), .pointer (some ⟨FB, 0, none⟩), .pointer (some ⟨LB, 0, none⟩), .pointer (some ⟨UB, 0, none⟩)]
/-- What the closure has captured stands. -/
structure Env (w0 : World) (F G FB LB UB : Nat) (vb : Value) (w : World) : Prop where
  below : Below w0.heap.size w0 w
  fb : C1 62 w FB (.pointer (some ⟨F, 0, none⟩))
  lb : C1 23 w LB vb
  ub : C1 66 w UB (upv G FB LB UB)
structure Dis (w0 : World) (F G FB LB UB : Nat) : Prop where
  f0 : w0.heap.size ≤ F
  g0 : w0.heap.size ≤ G
  fG : FB ≠ G
  fF : FB ≠ F
  lG : LB ≠ G
  lF : LB ≠ F
  uG : UB ≠ G
  uF : UB ≠ F
  ne : F ≠ G
section
variable {w0 w w' : World} {F G FB LB UB : Nat} {vb : Value}
theorem Env.ext (h : Env w0 F G FB LB UB vb w) (hb : Ext w w') : Env w0 F G FB LB UB vb w' :=
  ⟨Below.trans h.below (hb.mono h.below.size), h.fb.below hb, h.lb.below hb, h.ub.below hb⟩
theorem Env.but (h : Env w0 F G FB LB UB vb w) (D : Dis w0 F G FB LB UB) (hb : But w0.heap.size F G w w') : Env w0 F G FB LB UB vb w' :=
  ⟨Below.trans h.below hb.below, h.fb.but hb D.fF D.fG, h.lb.but hb D.lF D.lG, h.ub.but hb D.uF D.uG⟩
theorem Env.row (h : Env w0 F G FB LB UB vb w) {R : Nat} (h0 : w0.heap.size ≤ R) (h1 : FB ≠ R) (h2 : LB ≠ R) (h3 : UB ≠ R) (cs : Array Value) : Env w0 F G FB LB UB vb (w.setRow R cs) :=
  ⟨below_setRow h.below h0 cs, h.fb.row h1 _, h.lb.row h2 _, h.ub.row h3 _⟩
end
theorem But.narrow {B B' F G : Nat} {w w' : World} (h : But B F G w w') (hB : B' ≤ B) : But B' F G w w' := ⟨h.below.mono hB, h.other⟩

set_option maxHeartbeats 4000000 in
theorem up_leaf (w0 : World) (F G FB LB UB g k : Nat) (vb : Value) (b : List UInt8) (hk : k ≤ 256) (D : Dis w0 F G FB LB UB) (vl : Value) (x : List UInt8) (i : Int) (vp : Value) (ps : List (List UInt8)) (w : World)
    (he : Env w0 F G FB LB UB vb w) (hF : FindAt w F g none) (hG : C1 4 w G (.bool true)) (hg : HvAt w0 g k) (hsb : SlB w0 vb b) (bl : b.length ≤ 1048576) (hl : SlX w0 vl [x]) (xl : x.length ≤ 1048576) (hp : SlD w0 vp ps) :
    Calls Try.prog 36 #[vl, .int .i64 i, vp, .pointer (some ⟨G, 0, none⟩), .pointer (some ⟨FB, 0, none⟩), .pointer (some ⟨LB, 0, none⟩), .pointer (some ⟨UB, 0, none⟩)] w
      fun e w' => e = .returned (dg (hashL k (0 :: b))) ∧ FindAt w' F g (metL k none (0 :: b) (0 :: x)) ∧ C1 4 w' G (.bool (decide (ps.length = 0))) ∧ But w0.heap.size F G w w' := by
  obtain ⟨A, c, hvl, hc, hcm⟩ := hl.len
  rw [List.length_singleton] at hvl
  subst hvl
  obtain ⟨Ap, cp, rfl, hcp, hcpm, _⟩ := id hp.1
  obtain ⟨Ab, cb, rfl, _⟩ := id hsb
  have hq : ((ps.length : Int) == 0) = decide (ps.length = 0) := by rw [Bool.eq_iff_iff]; simp
  generalize decide (ps.length = 0) = d at *
  have r0 : RowT 38 (w.alloc (.cells (bs zer).toArray 38 (0, 0))) w.heap.size zer := heap_alloc_new _ _
  have b0 := ext_alloc w (.cells (bs zer).toArray 38 (0, 0))
  have cG := fun o => (hG.below (ext_alloc w o)).cell.1
  have fG := fun o => (hG.below (ext_alloc w o)).cell.2
  have hG1 := hG.below b0
  have hGl := hG.lt
  have but1 : But w0.heap.size F G w ((w.alloc (.cells (bs zer).toArray 38 (0, 0))).setCell ⟨G, 0, none⟩ (.bool d)) := (But.of b0 he.below.size).setCell (.inr rfl) D.g0 _
  have he1 := he.but D but1
  have hG2 := hG1.set (.bool d)
  have hF1 := (hF.below b0).cell (j := 0) hG1 (.bool d)
  have r1 := r0.other_cell (j := 0) (show w.heap.size ≠ G by omega) (.bool d)
  have hdl := hashL_length k (0 :: b)
  have nR1 : FB ≠ w.heap.size := by have := he.fb.lt; omega
  have nR2 : LB ≠ w.heap.size := by have := he.lb.lt; omega
  have nR3 : UB ≠ w.heap.size := by have := he.ub.lt; omega
  have nR : Hid (w0.heap.size ≤ w.heap.size) := he.below.size
  have nR1 : Hid _ := nR1
  have nR2 : Hid _ := nR2
  have nR3 : Hid _ := nR3
  have nR4 : Hid (w.heap.size ≠ G) := by unfold Hid; omega
  have nR5 : Hid (w.heap.size ≠ F) := by have := hF.lt; unfold Hid; omega
  clear r0 b0 hG hG1 hF he hGl
  go_enter Try.func36, Try.ntmps36
  go_wp2_with fail
  generalize hW : World.setCell (World.alloc w _) _ _ = W
  have hW2 : (w.alloc (.cells (bs zer).toArray 38 (0, 0))).setCell ⟨G, 0, none⟩ (.bool d) = W := by rw [← hW]; rfl
  rw [hW2] at but1 he1 hG2 hF1 r1
  clear hW hW2 cG fG hq
  have hS : Env w0 F G FB LB UB (.slice Ab b.length cb) W.drew := he1.ext (ext_drew _)
  refine wp_region_S (fun w' => Env w0 F G FB LB UB (.slice Ab b.length cb) w') (by kernel_rfl) ?_
  refine wpAnyS_take (i := 0) (v := ?_) hS (some 26) rfl rfl (by kernel_rfl) (by kernel_rfl) (by kernel_rfl) (fun _ _ _ h => h) ?_ ?_
  rotate_left 1
  · (refine Or.inl ⟨by rfl, ?_⟩; intro w' hw'; have hq1 := hw'.fb.cell.1; have hq2 := hw'.lb.cell.1; (try go_simp); (try rfl); done)
  try simp only [Act.put, List.setIfInBounds_toArray, List.set_cons_zero, List.set_cons_succ]
  refine wpAnyS_take (i := 1) (v := ?_) hS (some 27) rfl rfl (by kernel_rfl) (by kernel_rfl) (by kernel_rfl) (fun _ _ _ h => h) ?_ ?_
  rotate_left 1
  · (refine Or.inl ⟨by rfl, ?_⟩; intro w' hw'; have hq1 := hw'.fb.cell.1; have hq2 := hw'.lb.cell.1; (try go_simp); (try rfl); done)
  try simp only [Act.put, List.setIfInBounds_toArray, List.set_cons_zero, List.set_cons_succ]
  refine wpAnyS_take (i := 4) (v := ?_) hS (some 30) rfl rfl (by kernel_rfl) (by kernel_rfl) (by kernel_rfl) (fun _ _ _ h => h) ?_ ?_
  rotate_left 1
  · (refine Or.inl ⟨by rfl, ?_⟩; intro w' hw'; have hq1 := hw'.fb.cell.1; have hq2 := hw'.lb.cell.1; (try go_simp); (try rfl); done)
  try simp only [Act.put, List.setIfInBounds_toArray, List.set_cons_zero, List.set_cons_succ]
  refine wpAnyS_one (i := 2) rfl (by kernel_rfl) (by rfl) (fun K hK => ?_)
  go_simp
  generalize hW7 : World.drew (World.alloc W _) = W7
  have x7 : Ext W W7 := by rw [← hW7]; exact (ext_alloc _ _).drew
  have s7 : SlX W7 (.slice (some ⟨W.heap.size, 0, none⟩) 1 1) [b] := by rw [← hW7]; exact one_part (hsb.below he1.below)
  have hb := he1.ext x7
  refine hK.out _ _ hb ?_
  replace hS := hb
  clear hK K hb
  try simp only [Act.put, List.setIfInBounds_toArray, List.set_cons_zero, List.set_cons_succ]
  refine wpAnyS_one (i := 3) rfl (by kernel_rfl) (by rfl) (fun K hK => ?_)
  go_simp
  have hj := joined_leaf_own (by omega) s7
  (with_reducible refine hj.mono ?_); rintro e w8 ⟨v8, rfl, s8, b8⟩
  have x8 := Ext.trans x7 b8
  have hb := he1.ext x8
  refine hK.out _ _ hb ?_
  replace hS := hb
  clear hK K hb
  try simp only [Act.put, List.setIfInBounds_toArray, List.set_cons_zero, List.set_cons_succ]
  refine wpAnyS_one (i := 5) rfl (by kernel_rfl) (by rfl) (fun K hK => ?_)
  go_simp
  have hm := met_any F g k none v8 (.slice A 1 c) (0 :: b) [x] w8 hk (hF1.below x8) (hg.below hS.below) s8 (by simp; omega) (hl.below hS.below) (by simp) (by simpa using xl)
  (with_reducible refine hm.mono ?_); rintro e w9 ⟨rfl, f9, m9⟩
  have but9 := but1.trans ((But.of x8 he1.below.size).trans (m9.wide.narrow D.f0))
  have hb := (he1.ext x8).but D (m9.wide.narrow D.f0)
  have r9 := (r1.below x8).but m9.wide (G := G) nR5.out nR4.out
  have g9 := (hG2.below x8).but m9.wide (G := F) (fun e => D.ne e.symm) (fun e => D.ne e.symm)
  refine hK.out _ _ hb ?_
  replace hS := hb
  clear hK K hb
  try simp only [Act.put, List.setIfInBounds_toArray, List.set_cons_zero, List.set_cons_succ]
  refine wpAnyS_one (i := 6) rfl (by kernel_rfl) (by rfl) (fun K hK => ?_)
  refine arr_dg.store r9 zer_length hdl _ _ rfl rfl rfl ?_
  have hb := hS.row nR.out nR1.out nR2.out nR3.out (bs (hashL k (0 :: b))).toArray
  have f10 := f9.row r9 (bs (hashL k (0 :: b))).toArray
  have g10 := g9.row (fun e => nR4.out e.symm) (bs (hashL k (0 :: b))).toArray
  have but10 := but9.setRow (Nat.le_refl _) nR.out (bs (hashL k (0 :: b))).toArray
  have hret := arr_dg.loadVar (r9.setRow (hashL k (0 :: b))) hdl
  refine hK.out _ _ hb ?_
  replace hS := hb
  clear hK K hb
  try simp only [Act.put, List.setIfInBounds_toArray, List.set_cons_zero, List.set_cons_succ]
  refine wpAnyS_done (by kernel_rfl) ?_ _
  go_wp2_with fail
  exact ret_cell (v := dg (hashL k (0 :: b))) Try.results36 rfl hret rfl ⟨rfl, f10, g10, but10⟩
end Go.Proofs.Ytnpbapefjbfndaa
