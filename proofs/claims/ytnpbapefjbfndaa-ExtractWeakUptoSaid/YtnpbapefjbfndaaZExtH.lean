/- The closure of Consistent: where it stands; its ends (walks). -/
import Derived.Test.YtnpbapefjbfndaaZExtO
set_option linter.unusedVariables false
set_option linter.unusedSimpArgs false
set_option maxRecDepth 10000
namespace Go.Proofs.Ytnpbapefjbfndaa
open Go.RowKit
attribute [local go_sem high] dg_cells guard_dg rs_l rs_lh rs_lhm rs_h rs_hm rs_all

/-- Two results, both lie in memory. -/
theorem ret_cells2 {P : Program} {fn : Func} {R : Ending → World → Prop} {a : Act} {w : World} {x y : Tmp} {t t' : TypeId} {ad ad' : Addr} {v v' : Value} (hr : fn.results = #[.cell x t, .cell y t']) (hx : a.tmps.getD x undef = .pointer (some ad)) (hy : a.tmps.getD y undef = .pointer (some ad'))
    (hl : (loadVar t ad).run P w = .ok v w) (hl' : (loadVar t' ad').run P w = .ok v' w) (hd : a.defers = []) (h : R (.returned (.tuple #[v, v'])) w) : bodyPost P fn R .ret a w := by
  refine ⟨hd, .tuple #[v, v'], ?_, h⟩
  unfold results
  rw [hr]
  rw [Array.getD_eq_getD_getElem?] at hx hy
  simp [hx, hy, asAddr, Sem.run_bind, hl, hl']
def gpv (G OB UB FB HB : Nat) : Value := .func (.func 42) #[] #[.pointer (some ⟨G, 0, none⟩), .pointer (some ⟨OB, 0, none⟩), .pointer (some ⟨UB, 0, none⟩), .pointer (some ⟨FB, 0, none⟩), .pointer (some ⟨HB, 0, none⟩)]
/-- What the closure has captured stands. -/
structure Env2 (w0 : World) (F G OB UB FB HB g : Nat) (old : List UInt8) (w : World) : Prop where
  below : Below w0.heap.size w0 w
  ob : RowT 38 w OB old
  ub : C1 74 w UB (gpv G OB UB FB HB)
  fb : C1 62 w FB (.pointer (some ⟨F, 0, none⟩))
  hb : C1 26 w HB (hv g)
structure Dis2 (w0 : World) (F G OB UB FB HB : Nat) : Prop where
  f0 : w0.heap.size ≤ F
  g0 : w0.heap.size ≤ G
  oF : OB ≠ F
  oG : OB ≠ G
  uF : UB ≠ F
  uG : UB ≠ G
  fF : FB ≠ F
  fG : FB ≠ G
  hF : HB ≠ F
  hG : HB ≠ G
  ne : F ≠ G
section
variable {w0 w w' : World} {F G OB UB FB HB g : Nat} {old : List UInt8}
theorem Env2.ext (h : Env2 w0 F G OB UB FB HB g old w) (hb : Ext w w') : Env2 w0 F G OB UB FB HB g old w' :=
  ⟨Below.trans h.below (hb.mono h.below.size), h.ob.below hb, h.ub.below hb, h.fb.below hb, h.hb.below hb⟩
theorem Env2.but (h : Env2 w0 F G OB UB FB HB g old w) (D : Dis2 w0 F G OB UB FB HB) (hb : But w0.heap.size F G w w') : Env2 w0 F G OB UB FB HB g old w' :=
  ⟨Below.trans h.below hb.below, h.ob.but hb D.oF D.oG, h.ub.but hb D.uF D.uG, h.fb.but hb D.fF D.fG, h.hb.but hb D.hF D.hG⟩
theorem Env2.lt (h : Env2 w0 F G OB UB FB HB g old w) : w0.heap.size ≤ w.heap.size ∧ OB < w.heap.size ∧ UB < w.heap.size ∧ FB < w.heap.size ∧ HB < w.heap.size := ⟨h.below.size, h.ob.lt, h.ub.lt, h.fb.lt, h.hb.lt⟩
theorem Env2.row (h : Env2 w0 F G OB UB FB HB g old w) {R : Nat} (h0 : w0.heap.size ≤ R) (h1 : OB ≠ R) (h2 : UB ≠ R) (h3 : FB ≠ R) (h4 : HB ≠ R) (cs : Array Value) : Env2 w0 F G OB UB FB HB g old (w.setRow R cs) :=
  ⟨below_setRow h.below h0 cs, h.ob.other h1 _, h.ub.row h2 _, h.fb.row h3 _, h.hb.row h4 _⟩
end
/-- Both results are laid. -/
theorem two_rows {w0 w W : World} {F G g : Nat} {o : Option (List UInt8 × List UInt8)} {f : Bool} {x y : List UInt8} (hx : x.length = 32) (hy : y.length = 32) (r0 : RowT 38 W w.heap.size zer) (r1 : RowT 38 W (w.heap.size + 1) zer) (hF : FindAt W F g o) (hG : C1 4 W G (.bool f)) (hb : But w0.heap.size F G w W)
    (h0 : w0.heap.size ≤ w.heap.size) (hGl : G < w.heap.size) :
    RowT 38 (W.setRow w.heap.size (bs x).toArray) (w.heap.size + 1) zer ∧
    (loadVar 38 ⟨w.heap.size, 0, none⟩).run Try.prog ((W.setRow w.heap.size (bs x).toArray).setRow (w.heap.size + 1) (bs y).toArray) = .ok (dg x) ((W.setRow w.heap.size (bs x).toArray).setRow (w.heap.size + 1) (bs y).toArray) ∧
    (loadVar 38 ⟨w.heap.size + 1, 0, none⟩).run Try.prog ((W.setRow w.heap.size (bs x).toArray).setRow (w.heap.size + 1) (bs y).toArray) = .ok (dg y) ((W.setRow w.heap.size (bs x).toArray).setRow (w.heap.size + 1) (bs y).toArray) ∧
    FindAt ((W.setRow w.heap.size (bs x).toArray).setRow (w.heap.size + 1) (bs y).toArray) F g o ∧ C1 4 ((W.setRow w.heap.size (bs x).toArray).setRow (w.heap.size + 1) (bs y).toArray) G (.bool f) ∧ But w0.heap.size F G w ((W.setRow w.heap.size (bs x).toArray).setRow (w.heap.size + 1) (bs y).toArray) := by
  have r1' := r1.other (D := w.heap.size) (by omega) (bs x).toArray
  have ra := r0.setRow x
  have ra' := ra.other (D := w.heap.size + 1) (by omega) (bs y).toArray
  have rb := r1'.setRow y
  exact ⟨r1', arr_dg.loadVar ra' hx, arr_dg.loadVar rb hy, (hF.row r0 _).row r1' _, (hG.row (by omega) _).row (by omega) _, (hb.setRow (Nat.le_refl _) h0 _).setRow (by omega) (by omega) _⟩
set_option maxHeartbeats 4000000 in
theorem gp_full (w0 : World) (F G OB UB FB HB g : Nat) (old : List UInt8) (ol : old.length = 32) (D : Dis2 w0 F G OB UB FB HB) (vl : Value) (l : List (List UInt8)) (m : Nat) (vp : Value) (ps : List (List UInt8)) (w : World)
    (he : Env2 w0 F G OB UB FB HB g old w) (hF : FindAt w F g none) (hG : C1 4 w G (.bool true)) (hl : SlX w0 vl l) (hp : SlD w0 vp ps) (hm : m = l.length) :
    Calls Try.prog 42 #[vl, .int .i64 m, .bool true, vp, .pointer (some ⟨G, 0, none⟩), .pointer (some ⟨OB, 0, none⟩), .pointer (some ⟨UB, 0, none⟩), .pointer (some ⟨FB, 0, none⟩), .pointer (some ⟨HB, 0, none⟩)] w
      fun e w' => e = .returned (.tuple #[dg old, dg old]) ∧ FindAt w' F g none ∧ C1 4 w' G (.bool (decide (ps.length = 0))) ∧ But w0.heap.size F G w w' := by
  subst hm
  obtain ⟨A, c, rfl, hc, hcm⟩ := hl.len
  obtain ⟨Ap, cp, rfl, hcp, hcpm, _⟩ := id hp.1
  have hq : decide (((ps.length : Int) - 1) < 0) = decide (ps.length = 0) := by rw [Bool.eq_iff_iff, decide_eq_true_iff, decide_eq_true_iff]; omega
  have hq' : decide ((ps.length : Int) < 1) = decide (ps.length = 0) := by rw [Bool.eq_iff_iff, decide_eq_true_iff, decide_eq_true_iff]; omega
  generalize decide (ps.length = 0) = d at *
  obtain ⟨h1, h2, b2, z2⟩ := alloc2 (w := w) (o1 := .cells (bs zer).toArray 38 (0, 0)) (o2 := .cells (bs zer).toArray 38 (0, 0)) rfl
  have r0 : RowT 38 _ w.heap.size zer := h1
  have r1 : RowT 38 _ (w.heap.size + 1) zer := h2
  have cG := fun o o' => (hG.below (Ext.trans (ext_alloc w o) (ext_alloc _ o'))).cell.1
  have fG := fun o o' => (hG.below (Ext.trans (ext_alloc w o) (ext_alloc _ o'))).cell.2
  have hG1 := hG.below b2
  have hGl := hG.lt
  have hlt := he.lt
  have but1 := (But.of (F := F) (G := G) b2 he.below.size).setCell (j := 0) (.inr rfl) D.g0 (.bool d)
  have he1 := he.but D but1
  have hG2 := hG1.set (.bool d)
  have hF1 := (hF.below b2).cell (j := 0) hG1 (.bool d)
  have r0' := r0.other_cell (j := 0) (show w.heap.size ≠ G by omega) (.bool d)
  have r1' := r1.other_cell (j := 0) (show w.heap.size + 1 ≠ G by omega) (.bool d)
  replace hlt : Hid _ := hlt
  replace hGl : Hid _ := hGl
  clear h1 h2 r0 r1 b2 hG hG1 hF he z2
  go_enter Try.func42, Try.ntmps42
  go_wp2_with fail
  generalize hW : World.setCell (World.alloc (World.alloc w _) _) _ _ = W
  have hW2 : ((w.alloc (.cells (bs zer).toArray 38 (0, 0))).alloc (.cells (bs zer).toArray 38 (0, 0))).setCell ⟨G, 0, none⟩ (.bool d) = W := by rw [← hW]; rfl
  rw [hW2] at he1 r0' r1' hF1 hG2 but1
  have but2 := but1.trans (But.of (ext_drew _) he1.below.size)
  have hfin := two_rows (W := W.drew) ol ol r0' r1' (hF1.below (ext_drew _)) (hG2.below (ext_drew _)) but2 hlt.out.1 hGl.out
  clear hW hW2 cG fG hq hq' but1 hG2 hF1 r1' but2
  obtain ⟨rb, l0, l1, fF, fG, fB⟩ := hfin
  have hOB := he1.ob
  have n0 : OB ≠ w.heap.size := by have := hlt.out; omega
  have n1 : OB ≠ w.heap.size + 1 := by have := hlt.out; omega
  have hS : RowT 38 W.drew OB old := hOB
  refine wp_region_S (fun w' => RowT 38 w' OB old) (by kernel_rfl) ?_
  refine wpAnyS_take (i := 0) (v := ?_) hS (some 37) rfl rfl (by kernel_rfl) (by kernel_rfl) (by kernel_rfl) (fun _ _ _ h => h) ?_ ?_
  rotate_left 1
  · (refine Or.inl ⟨by rfl, ?_⟩; intro w' hw'; (refine arr_dg.ex hw' ol (.tmp 5) ?_ ?_ <;> rfl))
  try simp only [Act.put, List.setIfInBounds_toArray, List.set_cons_zero, List.set_cons_succ]
  refine wpAnyS_take (i := 1) (v := ?_) hS (some 38) rfl rfl (by kernel_rfl) (by kernel_rfl) (by kernel_rfl) (fun _ _ _ h => h) ?_ ?_
  rotate_left 1
  · (refine Or.inl ⟨by rfl, ?_⟩; intro w' hw'; (refine arr_dg.ex hw' ol (.tmp 5) ?_ ?_ <;> rfl))
  try simp only [Act.put, List.setIfInBounds_toArray, List.set_cons_zero, List.set_cons_succ]
  refine wpAnyS_one (i := 2) rfl (by kernel_rfl) (by rfl) (fun K hK => ?_)
  refine arr_dg.store r0' zer_length ol _ _ rfl rfl rfl ?_
  have hb := hS.other n0 (bs old).toArray
  refine hK.out _ _ hb ?_
  replace hS := hb
  clear hK K hb
  try simp only [Act.put, List.setIfInBounds_toArray, List.set_cons_zero, List.set_cons_succ]
  refine wpAnyS_one (i := 3) rfl (by kernel_rfl) (by rfl) (fun K hK => ?_)
  refine arr_dg.store rb zer_length ol _ _ rfl rfl rfl ?_
  have hb := hS.other n1 (bs old).toArray
  refine hK.out _ _ hb ?_
  replace hS := hb
  clear hK K hb
  try simp only [Act.put, List.setIfInBounds_toArray, List.set_cons_zero, List.set_cons_succ]
  refine wpAnyS_done (by kernel_rfl) ?_ _
  go_wp2_with fail
  exact ret_cells2 Try.results42 rfl rfl l0 l1 rfl ⟨rfl, fF, fG, fB⟩
set_option maxHeartbeats 4000000 in
theorem gp_none1 (w0 : World) (F G OB UB FB HB g : Nat) (old : List UInt8) (ol : old.length = 32) (D : Dis2 w0 F G OB UB FB HB) (vl : Value) (l : List (List UInt8)) (m : Nat) (vp : Value) (ps : List (List UInt8)) (w : World)
    (he : Env2 w0 F G OB UB FB HB g old w) (hF : FindAt w F g none) (hG : C1 4 w G (.bool true)) (hl : SlX w0 vl l) (hp : SlD w0 vp ps) (hm : m = l.length) (h0 : ps.length = 0) :
    Calls Try.prog 42 #[vl, .int .i64 m, .bool false, vp, .pointer (some ⟨G, 0, none⟩), .pointer (some ⟨OB, 0, none⟩), .pointer (some ⟨UB, 0, none⟩), .pointer (some ⟨FB, 0, none⟩), .pointer (some ⟨HB, 0, none⟩)] w
      fun e w' => e = .returned (.tuple #[dg old, dg old]) ∧ FindAt w' F g none ∧ C1 4 w' G (.bool false) ∧ But w0.heap.size F G w w' := by
  obtain ⟨A, c, rfl, hc, hcm⟩ := hl.len
  obtain ⟨Ap, cp, rfl, hcp, hcpm, _⟩ := id hp.1
  rw [h0]
  subst hm
  obtain ⟨h1, h2, b2, z2⟩ := alloc2 (w := w) (o1 := .cells (bs zer).toArray 38 (0, 0)) (o2 := .cells (bs zer).toArray 38 (0, 0)) rfl
  have r0 : RowT 38 _ w.heap.size zer := h1
  have r1 : RowT 38 _ (w.heap.size + 1) zer := h2
  have cG := fun o o' => (hG.below (Ext.trans (ext_alloc w o) (ext_alloc _ o'))).cell.1
  have fG := fun o o' => (hG.below (Ext.trans (ext_alloc w o) (ext_alloc _ o'))).cell.2
  have hG1 := hG.below b2
  have hGl := hG.lt
  have hlt := he.lt
  have but1 := (But.of (F := F) (G := G) b2 he.below.size).setCell (j := 0) (.inr rfl) D.g0 (.bool false)
  have he1 := he.but D but1
  have hG2 := hG1.set (.bool false)
  have hF1 := (hF.below b2).cell (j := 0) hG1 (.bool false)
  have r0' := r0.other_cell (j := 0) (show w.heap.size ≠ G by omega) (.bool false)
  have r1' := r1.other_cell (j := 0) (show w.heap.size + 1 ≠ G by omega) (.bool false)
  replace hlt : Hid _ := hlt
  replace hGl : Hid _ := hGl
  clear h1 h2 r0 r1 b2 hG hG1 hF he z2
  go_enter Try.func42, Try.ntmps42
  go_wp2_with fail
  generalize hW : World.setCell (World.alloc (World.alloc w _) _) _ _ = W
  have hW2 : ((w.alloc (.cells (bs zer).toArray 38 (0, 0))).alloc (.cells (bs zer).toArray 38 (0, 0))).setCell ⟨G, 0, none⟩ (.bool false) = W := by rw [← hW]; rfl
  rw [hW2] at he1 r0' r1' hF1 hG2 but1
  have but2 := but1.trans (But.of (ext_drew _) he1.below.size)
  have hfin := two_rows (W := W.drew) ol ol r0' r1' (hF1.below (ext_drew _)) (hG2.below (ext_drew _)) but2 hlt.out.1 hGl.out
  clear hW hW2 cG fG but1 hG2 hF1 r1' but2
  obtain ⟨rb, l0, l1, fF, fG, fB⟩ := hfin
  have hOB := he1.ob
  have n0 : OB ≠ w.heap.size := by have := hlt.out; omega
  have n1 : OB ≠ w.heap.size + 1 := by have := hlt.out; omega
  have hS : RowT 38 W.drew OB old := hOB
  refine wp_region_S (fun w' => RowT 38 w' OB old) (by kernel_rfl) ?_
  refine wpAnyS_take (i := 0) (v := ?_) hS (some 42) rfl rfl (by kernel_rfl) (by kernel_rfl) (by kernel_rfl) (fun _ _ _ h => h) ?_ ?_
  rotate_left 1
  · (refine Or.inl ⟨by rfl, ?_⟩; intro w' hw'; (refine arr_dg.ex hw' ol (.tmp 5) ?_ ?_ <;> rfl))
  try simp only [Act.put, List.setIfInBounds_toArray, List.set_cons_zero, List.set_cons_succ]
  refine wpAnyS_take (i := 1) (v := ?_) hS (some 43) rfl rfl (by kernel_rfl) (by kernel_rfl) (by kernel_rfl) (fun _ _ _ h => h) ?_ ?_
  rotate_left 1
  · (refine Or.inl ⟨by rfl, ?_⟩; intro w' hw'; (refine arr_dg.ex hw' ol (.tmp 5) ?_ ?_ <;> rfl))
  try simp only [Act.put, List.setIfInBounds_toArray, List.set_cons_zero, List.set_cons_succ]
  refine wpAnyS_one (i := 2) rfl (by kernel_rfl) (by rfl) (fun K hK => ?_)
  refine arr_dg.store r0' zer_length ol _ _ rfl rfl rfl ?_
  have hb := hS.other n0 (bs old).toArray
  refine hK.out _ _ hb ?_
  replace hS := hb
  clear hK K hb
  try simp only [Act.put, List.setIfInBounds_toArray, List.set_cons_zero, List.set_cons_succ]
  refine wpAnyS_one (i := 3) rfl (by kernel_rfl) (by rfl) (fun K hK => ?_)
  refine arr_dg.store rb zer_length ol _ _ rfl rfl rfl ?_
  have hb := hS.other n1 (bs old).toArray
  refine hK.out _ _ hb ?_
  replace hS := hb
  clear hK K hb
  try simp only [Act.put, List.setIfInBounds_toArray, List.set_cons_zero, List.set_cons_succ]
  refine wpAnyS_done (by kernel_rfl) ?_ _
  go_wp2_with fail
  exact ret_cells2 Try.results42 rfl rfl l0 l1 rfl ⟨rfl, fF, fG, fB⟩
set_option maxHeartbeats 4000000 in
theorem gp_none2 (w0 : World) (F G OB UB FB HB g : Nat) (old : List UInt8) (ol : old.length = 32) (D : Dis2 w0 F G OB UB FB HB) (vl : Value) (l : List (List UInt8)) (m : Nat) (mark : Bool) (vp : Value) (ps : List (List UInt8)) (w : World)
    (he : Env2 w0 F G OB UB FB HB g old w) (hF : FindAt w F g none) (hG : C1 4 w G (.bool true)) (hl : SlX w0 vl l) (hp : SlD w0 vp ps) (hm : m ≠ l.length) (h0 : ps.length = 0) :
    Calls Try.prog 42 #[vl, .int .i64 m, .bool mark, vp, .pointer (some ⟨G, 0, none⟩), .pointer (some ⟨OB, 0, none⟩), .pointer (some ⟨UB, 0, none⟩), .pointer (some ⟨FB, 0, none⟩), .pointer (some ⟨HB, 0, none⟩)] w
      fun e w' => e = .returned (.tuple #[dg old, dg old]) ∧ FindAt w' F g none ∧ C1 4 w' G (.bool false) ∧ But w0.heap.size F G w w' := by
  obtain ⟨A, c, rfl, hc, hcm⟩ := hl.len
  obtain ⟨Ap, cp, rfl, hcp, hcpm, _⟩ := id hp.1
  rw [h0]
  have hq : ((m : Int) == l.length) = false := by rw [beq_eq_false_iff_ne]; omega
  obtain ⟨h1, h2, b2, z2⟩ := alloc2 (w := w) (o1 := .cells (bs zer).toArray 38 (0, 0)) (o2 := .cells (bs zer).toArray 38 (0, 0)) rfl
  have r0 : RowT 38 _ w.heap.size zer := h1
  have r1 : RowT 38 _ (w.heap.size + 1) zer := h2
  have cG := fun o o' => (hG.below (Ext.trans (ext_alloc w o) (ext_alloc _ o'))).cell.1
  have fG := fun o o' => (hG.below (Ext.trans (ext_alloc w o) (ext_alloc _ o'))).cell.2
  have hG1 := hG.below b2
  have hGl := hG.lt
  have hlt := he.lt
  have but1 := (But.of (F := F) (G := G) b2 he.below.size).setCell (j := 0) (.inr rfl) D.g0 (.bool false)
  have he1 := he.but D but1
  have hG2 := hG1.set (.bool false)
  have hF1 := (hF.below b2).cell (j := 0) hG1 (.bool false)
  have r0' := r0.other_cell (j := 0) (show w.heap.size ≠ G by omega) (.bool false)
  have r1' := r1.other_cell (j := 0) (show w.heap.size + 1 ≠ G by omega) (.bool false)
  replace hlt : Hid _ := hlt
  replace hGl : Hid _ := hGl
  clear h1 h2 r0 r1 b2 hG hG1 hF he z2
  go_enter Try.func42, Try.ntmps42
  go_wp2_with fail
  generalize hW : World.setCell (World.alloc (World.alloc w _) _) _ _ = W
  have hW2 : ((w.alloc (.cells (bs zer).toArray 38 (0, 0))).alloc (.cells (bs zer).toArray 38 (0, 0))).setCell ⟨G, 0, none⟩ (.bool false) = W := by rw [← hW]; rfl
  rw [hW2] at he1 r0' r1' hF1 hG2 but1
  have but2 := but1.trans (But.of (ext_drew _) he1.below.size)
  have hfin := two_rows (W := W.drew) ol ol r0' r1' (hF1.below (ext_drew _)) (hG2.below (ext_drew _)) but2 hlt.out.1 hGl.out
  clear hW hW2 cG fG but1 hG2 hF1 r1' but2
  obtain ⟨rb, l0, l1, fF, fG, fB⟩ := hfin
  have hOB := he1.ob
  have n0 : OB ≠ w.heap.size := by have := hlt.out; omega
  have n1 : OB ≠ w.heap.size + 1 := by have := hlt.out; omega
  have hS : RowT 38 W.drew OB old := hOB
  refine wp_region_S (fun w' => RowT 38 w' OB old) (by kernel_rfl) ?_
  refine wpAnyS_take (i := 0) (v := ?_) hS (some 42) rfl rfl (by kernel_rfl) (by kernel_rfl) (by kernel_rfl) (fun _ _ _ h => h) ?_ ?_
  rotate_left 1
  · (refine Or.inl ⟨by rfl, ?_⟩; intro w' hw'; (refine arr_dg.ex hw' ol (.tmp 5) ?_ ?_ <;> rfl))
  try simp only [Act.put, List.setIfInBounds_toArray, List.set_cons_zero, List.set_cons_succ]
  refine wpAnyS_take (i := 1) (v := ?_) hS (some 43) rfl rfl (by kernel_rfl) (by kernel_rfl) (by kernel_rfl) (fun _ _ _ h => h) ?_ ?_
  rotate_left 1
  · (refine Or.inl ⟨by rfl, ?_⟩; intro w' hw'; (refine arr_dg.ex hw' ol (.tmp 5) ?_ ?_ <;> rfl))
  try simp only [Act.put, List.setIfInBounds_toArray, List.set_cons_zero, List.set_cons_succ]
  refine wpAnyS_one (i := 2) rfl (by kernel_rfl) (by rfl) (fun K hK => ?_)
  refine arr_dg.store r0' zer_length ol _ _ rfl rfl rfl ?_
  have hb := hS.other n0 (bs old).toArray
  refine hK.out _ _ hb ?_
  replace hS := hb
  clear hK K hb
  try simp only [Act.put, List.setIfInBounds_toArray, List.set_cons_zero, List.set_cons_succ]
  refine wpAnyS_one (i := 3) rfl (by kernel_rfl) (by rfl) (fun K hK => ?_)
  refine arr_dg.store rb zer_length ol _ _ rfl rfl rfl ?_
  have hb := hS.other n1 (bs old).toArray
  refine hK.out _ _ hb ?_
  replace hS := hb
  clear hK K hb
  try simp only [Act.put, List.setIfInBounds_toArray, List.set_cons_zero, List.set_cons_succ]
  refine wpAnyS_done (by kernel_rfl) ?_ _
  go_wp2_with fail
  exact ret_cells2 Try.results42 rfl rfl l0 l1 rfl ⟨rfl, fF, fG, fB⟩
theorem gp_none (w0 : World) (F G OB UB FB HB g : Nat) (old : List UInt8) (ol : old.length = 32) (D : Dis2 w0 F G OB UB FB HB) (vl : Value) (l : List (List UInt8)) (m : Nat) (mark : Bool) (vp : Value) (ps : List (List UInt8)) (w : World)
    (he : Env2 w0 F G OB UB FB HB g old w) (hF : FindAt w F g none) (hG : C1 4 w G (.bool true)) (hl : SlX w0 vl l) (hp : SlD w0 vp ps) (hm : ¬ (m = l.length ∧ mark = true)) (h0 : ps.length = 0) :
    Calls Try.prog 42 #[vl, .int .i64 m, .bool mark, vp, .pointer (some ⟨G, 0, none⟩), .pointer (some ⟨OB, 0, none⟩), .pointer (some ⟨UB, 0, none⟩), .pointer (some ⟨FB, 0, none⟩), .pointer (some ⟨HB, 0, none⟩)] w
      fun e w' => e = .returned (.tuple #[dg old, dg old]) ∧ FindAt w' F g none ∧ C1 4 w' G (.bool false) ∧ But w0.heap.size F G w w' := by
  by_cases h : m = l.length
  · have : mark = false := by cases mark with
      | false => rfl
      | true => exact absurd ⟨h, rfl⟩ hm
    subst this
    exact gp_none1 w0 F G OB UB FB HB g old ol D vl l m vp ps w he hF hG hl hp h h0
  · exact gp_none2 w0 F G OB UB FB HB g old ol D vl l m mark vp ps w he hF hG hl hp h h0
set_option maxHeartbeats 4000000 in
theorem gp_part (w0 : World) (F G OB UB FB HB g : Nat) (old : List UInt8) (ol : old.length = 32) (D : Dis2 w0 F G OB UB FB HB) (vl : Value) (l : List (List UInt8)) (m : Nat) (vp : Value) (ps : List (List UInt8)) (w : World)
    (he : Env2 w0 F G OB UB FB HB g old w) (hF : FindAt w F g none) (hG : C1 4 w G (.bool true)) (hl : SlX w0 vl l) (hp : SlD w0 vp ps) (hm : m = l.length) (h0 : 0 < ps.length) :
    Calls Try.prog 42 #[vl, .int .i64 m, .bool false, vp, .pointer (some ⟨G, 0, none⟩), .pointer (some ⟨OB, 0, none⟩), .pointer (some ⟨UB, 0, none⟩), .pointer (some ⟨FB, 0, none⟩), .pointer (some ⟨HB, 0, none⟩)] w
      fun e w' => e = .returned (.tuple #[dg (ps.getD 0 []), dg (ps.getD 0 [])]) ∧ FindAt w' F g none ∧ C1 4 w' G (.bool (decide (ps.length = 1))) ∧ But w0.heap.size F G w w' := by
  obtain ⟨A, c, rfl, hc, hcm⟩ := hl.len
  obtain ⟨Ap, cp, rfl, hcp, hcpm, _⟩ := id hp.1
  subst hm
  obtain ⟨ad, rfl, hrd⟩ := hp.get (i := 0) h0
  have hd1 := hp.len32 (i := 0) h0
  generalize ps.getD 0 [] = d0 at *
  rw [Nat.zero_mul, show ad.add 0 = ad by cases ad; simp [Addr.add]] at hrd
  have hq : ((ps.length : Int) - 1 == 0) = decide (ps.length = 1) := by rw [Bool.eq_iff_iff, beq_iff_eq, decide_eq_true_iff]; omega
  have hq2 : ¬ ((ps.length : Int) - 1 < 0) := by omega
  have i0 : (0 : Int) < ps.length := by omega
  generalize decide (ps.length = 1) = d at *
  obtain ⟨h1, h2, b2, z2⟩ := alloc2 (w := w) (o1 := .cells (bs zer).toArray 38 (0, 0)) (o2 := .cells (bs zer).toArray 38 (0, 0)) rfl
  have r0 : RowT 38 _ w.heap.size zer := h1
  have r1 : RowT 38 _ (w.heap.size + 1) zer := h2
  have cG := fun o o' => (hG.below (Ext.trans (ext_alloc w o) (ext_alloc _ o'))).cell.1
  have fG := fun o o' => (hG.below (Ext.trans (ext_alloc w o) (ext_alloc _ o'))).cell.2
  have hG1 := hG.below b2
  have hGl := hG.lt
  have hlt := he.lt
  have but1 := (But.of (F := F) (G := G) b2 he.below.size).setCell (j := 0) (.inr rfl) D.g0 (.bool d)
  have he1 := he.but D but1
  have hG2 := hG1.set (.bool d)
  have hF1 := (hF.below b2).cell (j := 0) hG1 (.bool d)
  have r0' := r0.other_cell (j := 0) (show w.heap.size ≠ G by omega) (.bool d)
  have r1' := r1.other_cell (j := 0) (show w.heap.size + 1 ≠ G by omega) (.bool d)
  replace hlt : Hid _ := hlt
  replace hGl : Hid _ := hGl
  clear h1 h2 r0 r1 b2 hG hG1 hF he z2
  go_enter Try.func42, Try.ntmps42
  go_wp2_with fail
  generalize hW : World.setCell (World.alloc (World.alloc w _) _) _ _ = W
  have hW2 : ((w.alloc (.cells (bs zer).toArray 38 (0, 0))).alloc (.cells (bs zer).toArray 38 (0, 0))).setCell ⟨G, 0, none⟩ (.bool d) = W := by rw [← hW]; rfl
  rw [hW2] at he1 r0' r1' hF1 hG2 but1
  have but2 := but1.trans (But.of (ext_drew _) he1.below.size)
  have hfin := two_rows (W := W.drew) hd1 hd1 r0' r1' (hF1.below (ext_drew _)) (hG2.below (ext_drew _)) but2 hlt.out.1 hGl.out
  clear hW hW2 cG fG hq but1 hG2 hF1 r1' but2
  obtain ⟨rb, l0, l1, fF, fG, fB⟩ := hfin
  have hS : Below w0.heap.size w0 W.drew := he1.below.drew
  have n0 : w0.heap.size ≤ w.heap.size := hlt.out.1
  have n1 : w0.heap.size ≤ w.heap.size + 1 := by omega
  refine wp_region_S (fun w' => Below w0.heap.size w0 w') (by kernel_rfl) ?_
  refine wpAnyS_take (i := 0) (v := ?_) hS (some 54) rfl rfl (by kernel_rfl) (by kernel_rfl) (by kernel_rfl) (fun _ _ _ h => h) ?_ ?_
  rotate_left 1
  · (refine Or.inl ⟨by rfl, ?_⟩; intro w' hw'; (try go_simp); (try rfl); done)
  try simp only [Act.put, List.setIfInBounds_toArray, List.set_cons_zero, List.set_cons_succ]
  refine wpAnyS_take (i := 1) (v := ?_) hS (some 55) rfl rfl (by kernel_rfl) (by kernel_rfl) (by kernel_rfl) (fun _ _ _ h => h) ?_ ?_
  rotate_left 1
  · (refine Or.inl ⟨by rfl, ?_⟩; intro w' hw'; (try go_simp); (try rfl); done)
  try simp only [Act.put, List.setIfInBounds_toArray, List.set_cons_zero, List.set_cons_succ]
  refine wpAnyS_take (i := 2) (v := ?_) hS (some 56) rfl rfl (by kernel_rfl) (by kernel_rfl) (by kernel_rfl) (fun _ _ _ h => h) ?_ ?_
  rotate_left 1
  · (refine Or.inl ⟨by rfl, ?_⟩; intro w' hw'; (refine arr_dg.exAt' (hrd.below' hw') hd1 (.tmp 55) ?_ ?_ <;> rfl))
  try simp only [Act.put, List.setIfInBounds_toArray, List.set_cons_zero, List.set_cons_succ]
  refine wpAnyS_take (i := 3) (v := ?_) hS (some 57) rfl rfl (by kernel_rfl) (by kernel_rfl) (by kernel_rfl) (fun _ _ _ h => h) ?_ ?_
  rotate_left 1
  · (refine Or.inl ⟨by rfl, ?_⟩; intro w' hw'; (try go_simp); (try rfl); done)
  try simp only [Act.put, List.setIfInBounds_toArray, List.set_cons_zero, List.set_cons_succ]
  refine wpAnyS_take (i := 4) (v := ?_) hS (some 58) rfl rfl (by kernel_rfl) (by kernel_rfl) (by kernel_rfl) (fun _ _ _ h => h) ?_ ?_
  rotate_left 1
  · (refine Or.inl ⟨by rfl, ?_⟩; intro w' hw'; (try go_simp); (try rfl); done)
  try simp only [Act.put, List.setIfInBounds_toArray, List.set_cons_zero, List.set_cons_succ]
  refine wpAnyS_take (i := 5) (v := ?_) hS (some 59) rfl rfl (by kernel_rfl) (by kernel_rfl) (by kernel_rfl) (fun _ _ _ h => h) ?_ ?_
  rotate_left 1
  · (refine Or.inl ⟨by rfl, ?_⟩; intro w' hw'; (refine arr_dg.exAt' (hrd.below' hw') hd1 (.tmp 58) ?_ ?_ <;> rfl))
  try simp only [Act.put, List.setIfInBounds_toArray, List.set_cons_zero, List.set_cons_succ]
  refine wpAnyS_one (i := 6) rfl (by kernel_rfl) (by rfl) (fun K hK => ?_)
  refine arr_dg.store r0' zer_length hd1 _ _ rfl rfl rfl ?_
  have hb := below_setRow hS n0 (bs d0).toArray
  refine hK.out _ _ hb ?_
  replace hS := hb
  clear hK K hb
  try simp only [Act.put, List.setIfInBounds_toArray, List.set_cons_zero, List.set_cons_succ]
  refine wpAnyS_one (i := 7) rfl (by kernel_rfl) (by rfl) (fun K hK => ?_)
  refine arr_dg.store rb zer_length hd1 _ _ rfl rfl rfl ?_
  have hb := below_setRow hS n1 (bs d0).toArray
  refine hK.out _ _ hb ?_
  replace hS := hb
  clear hK K hb
  try simp only [Act.put, List.setIfInBounds_toArray, List.set_cons_zero, List.set_cons_succ]
  refine wpAnyS_done (by kernel_rfl) ?_ _
  go_wp2_with fail
  exact ret_cells2 Try.results42 rfl rfl l0 l1 rfl ⟨rfl, fF, fG, fB⟩
end Go.Proofs.Ytnpbapefjbfndaa
