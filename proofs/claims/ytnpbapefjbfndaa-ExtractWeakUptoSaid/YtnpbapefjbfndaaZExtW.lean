/- The closure of Included: no path; the left half, the right half; all of it (walks). -/
import Derived.Test.YtnpbapefjbfndaaZXu
import Derived.Outline
set_option linter.unusedVariables false
set_option linter.unusedSimpArgs false
set_option maxRecDepth 10000
namespace Go.Proofs.Ytnpbapefjbfndaa
open Go.RowKit
attribute [local go_sem high] dg_cells guard_dg rs_l rs_lh rs_lhm rs_h rs_hm rs_all

theorem Arr8.exAt' {t : TypeId} {n : Nat} (T : Arr8 t n) {o : Oper} {a : Act} {w : World} {x : List UInt8} {ad : Addr} (hB : RdB w (some ad) x) (hx : x.length = n) (p : Operand) (ho : o.op = .load t p) (hp : a.eval p = .pointer (some ad)) :
    (execOp a.eval o).run Try.prog w = .ok (.value (dg x)) w := by
  unfold execOp
  simp only [ho, hp, Instr.loadAt, Instr.sureAddr, Sem.run_bind, Sem.run_pure, Result.andThen_ok, T.loadAt hB hx]
set_option maxHeartbeats 4000000 in
theorem up_none (w0 : World) (F G FB LB UB g : Nat) (vb : Value) (D : Dis w0 F G FB LB UB) (vl : Value) (l : List (List UInt8)) (i : Int) (vp : Value) (ps : List (List UInt8)) (w : World)
    (he : Env w0 F G FB LB UB vb w) (hF : FindAt w F g none) (hG : C1 4 w G (.bool true)) (hl : SlX w0 vl l) (h2 : l.length ≠ 1) (hp : SlD w0 vp ps) (h0 : ps.length = 0) :
    Calls Try.prog 36 #[vl, .int .i64 i, vp, .pointer (some ⟨G, 0, none⟩), .pointer (some ⟨FB, 0, none⟩), .pointer (some ⟨LB, 0, none⟩), .pointer (some ⟨UB, 0, none⟩)] w
      fun e w' => e = .returned (dg zer) ∧ FindAt w' F g none ∧ C1 4 w' G (.bool false) ∧ But w0.heap.size F G w w' := by
  obtain ⟨A, c, rfl, hc, hcm⟩ := hl.len
  obtain ⟨Ap, cp, rfl, hcp, hcpm, _⟩ := id hp.1
  rw [h0]
  have hq : ((l.length : Int) == 1) = false := by rw [beq_eq_false_iff_ne]; omega
  have r0 : RowT 38 (w.alloc (.cells (bs zer).toArray 38 (0, 0))) w.heap.size zer := heap_alloc_new _ _
  have b0 := ext_alloc w (.cells (bs zer).toArray 38 (0, 0))
  have cG := fun o => (hG.below (ext_alloc w o)).cell.1
  have fG := fun o => (hG.below (ext_alloc w o)).cell.2
  have hG1 := hG.below b0
  have hGl := hG.lt
  have but1 : But w0.heap.size F G w ((w.alloc (.cells (bs zer).toArray 38 (0, 0))).setCell ⟨G, 0, none⟩ (.bool false)) := (But.of b0 he.below.size).setCell (.inr rfl) D.g0 _
  have hG2 := hG1.set (.bool false)
  have hF1 := (hF.below b0).cell (j := 0) hG1 (.bool false)
  have r1 := r0.other_cell (j := 0) (show w.heap.size ≠ G by omega) (.bool false)
  have nR4 : Hid (w.heap.size ≠ G) := by unfold Hid; omega
  have nR : Hid (w0.heap.size ≤ w.heap.size) := he.below.size
  clear r0 b0 hG hG1 hF he hGl
  go_enter Try.func36, Try.ntmps36
  have hret := arr_dg.loadVar (r1.setRow zer) zer_length
  have f2 := hF1.row r1 (bs zer).toArray
  have g2 := hG2.row (fun e => nR4.out e.symm) (bs zer).toArray
  have but2 := but1.setRow (Nat.le_refl _) nR.out (bs zer).toArray
  go_wp2_with ((with_reducible refine at_store ?_); refine arr_dg.storeL r1 zer_length rfl zer_length _ _ rfl rfl rfl ?_)
  exact ret_cell (v := dg zer) Try.results36 rfl hret rfl ⟨rfl, f2, g2, but2⟩
set_option maxHeartbeats 8000000 in
theorem up_left (w0 : World) (F G FB LB UB g k : Nat) (vb : Value) (hk : k ≤ 256) (D : Dis w0 F G FB LB UB) (A Ap : Option Addr) (c cp : Nat) (l : List (List UInt8)) (i j : Nat) (ps : List (List UInt8)) (wy : WayL) (w : World)
    (he : Env w0 F G FB LB UB vb w) (hF : FindAt w F g none) (hG : C1 4 w G (.bool true)) (hg : HvAt w0 g k) (hl : SlX w0 (.slice A l.length c) l) (h2 : 2 ≤ l.length) (hll : l.length ≤ 1048576) (hz : ∀ z ∈ l, z.length ≤ 1048576)
    (hp : SlD w0 (.slice Ap ps.length cp) ps) (h0 : 0 < ps.length) (hj : kOf l.length = j) (hij : i < j) (hnl : wy.new.length = 32)
    (hup : ∀ w', Env w0 F G FB LB UB vb w' → FindAt w' F g none → C1 4 w' G (.bool true) →
      Calls Try.prog 36 #[.slice A j c, .int .i64 i, .slice Ap (ps.length - 1) cp, .pointer (some ⟨G, 0, none⟩), .pointer (some ⟨FB, 0, none⟩), .pointer (some ⟨LB, 0, none⟩), .pointer (some ⟨UB, 0, none⟩)] w'
        fun e w'' => e = .returned (dg wy.new) ∧ FindAt w'' F g wy.p ∧ C1 4 w'' G (.bool wy.fits) ∧ But w0.heap.size F G w' w'') :
    Calls Try.prog 36 #[.slice A l.length c, .int .i64 i, .slice Ap ps.length cp, .pointer (some ⟨G, 0, none⟩), .pointer (some ⟨FB, 0, none⟩), .pointer (some ⟨LB, 0, none⟩), .pointer (some ⟨UB, 0, none⟩)] w
      fun e w' => e = .returned (dg (stepL k wy (ndL wy.new (lastL ps)) l).new) ∧ FindAt w' F g (stepL k wy (ndL wy.new (lastL ps)) l).p ∧ C1 4 w' G (.bool wy.fits) ∧ But w0.heap.size F G w w' := by
  have e1 : (stepL k wy (ndL wy.new (lastL ps)) l).new = hashL k (ndL wy.new (lastL ps)) := rfl
  have e2 : (stepL k wy (ndL wy.new (lastL ps)) l).p = metL k wy.p (ndL wy.new (lastL ps)) (textL k l) := rfl
  rw [e1, e2]
  clear e1 e2
  obtain ⟨ad, rfl, hrd⟩ := hp.get (i := ps.length - 1) (by omega)
  have hd1 := hp.len32 (i := ps.length - 1) (by omega)
  have hlast : lastL ps = ps.getD (ps.length - 1) [] := rfl
  rw [← hlast] at hrd hd1
  clear hlast
  have hkl := kOf_lt (n := l.length) h2 (by omega)
  rw [hj] at hkl
  have hcl : l.length ≤ c := by obtain ⟨_, _, e, h, _⟩ := hl.len; cases e; exact h
  have hcp : ps.length ≤ cp := by obtain ⟨_, _, e, h, _⟩ := hp.1; cases e; exact h
  have hcpm : cp ≤ 9223372036854775807 := by obtain ⟨_, _, e, _, h, _⟩ := hp.1; cases e; exact h
  have hh := fun w' => half_any l.length w' h2 hll
  rw [hj] at hh
  have hnd := fun w' => node_own wy.new (lastL ps) hnl hd1 w'
  have htl : (ndL wy.new (lastL ps)).length = 65 := ndL_length _ _ hnl hd1
  generalize lastL ps = lst at *
  generalize ndL wy.new lst = t at *
  have q1 : ((l.length : Int) == 1) = false := by rw [beq_eq_false_iff_ne]; omega
  have hps : (ps.length : Int) ≤ 9223372036854775807 := by omega
  have j0 : (0 : Int) ≤ (ps.length : Int) - 1 := by omega
  have j1 : (ps.length : Int) - 1 < ps.length := by omega
  have j4 : (1 : Int) ≤ ps.length := by omega
  have j2 : ((ps.length : Int) - 1).toNat = ps.length - 1 := by omega
  have j3 : (ps.length : Int) - 1 ≤ cp := by omega
  have g1 : (j : Int) ≤ c := by omega
  have g2 : (i : Int) < j := by omega
  have r0 : RowT 38 (w.alloc (.cells (bs zer).toArray 38 (0, 0))) w.heap.size zer := heap_alloc_new _ _
  have b0 := ext_alloc w (.cells (bs zer).toArray 38 (0, 0))
  have hG1 := hG.below b0
  have he1 := he.ext b0
  have hF1 := hF.below b0
  have but1 : But w0.heap.size F G w (w.alloc (.cells (bs zer).toArray 38 (0, 0))) := But.of b0 he.below.size
  have hdl := hashL_length k t
  have nR1 : Hid (FB ≠ w.heap.size) := by have := he.fb.lt; unfold Hid; omega
  have nR2 : Hid (LB ≠ w.heap.size) := by have := he.lb.lt; unfold Hid; omega
  have nR3 : Hid (UB ≠ w.heap.size) := by have := he.ub.lt; unfold Hid; omega
  have nR : Hid (w0.heap.size ≤ w.heap.size) := he.below.size
  have nR4 : Hid (w.heap.size ≠ G) := by have := hG.lt; unfold Hid; omega
  have nR5 : Hid (w.heap.size ≠ F) := by have := hF.lt; unfold Hid; omega
  replace hj : Hid _ := hj
  clear b0 hG hF he hkl hcl hcp hcpm
  go_enter Try.func36, Try.ntmps36
  go_wp2_with fail
  (with_reducible refine (hh _).mono ?_); rintro e w' ⟨rfl, rfl⟩
  go_wp2_with fail
  generalize hW : World.alloc w _ = W
  have hW2 : w.alloc (.cells (bs zer).toArray 38 (0, 0)) = W := by rw [← hW]; rfl
  rw [hW2] at but1 he1 hG1 hF1 r0
  clear hW hW2 hh
  have hS : Env w0 F G FB LB UB vb W.drew := he1.ext (ext_drew _)
  refine wp_region_S (fun w' => Env w0 F G FB LB UB vb w') (by kernel_rfl) ?_
  refine wpAnyS_take (i := 0) (v := ?_) hS (some 42) rfl rfl (by kernel_rfl) (by kernel_rfl) (by kernel_rfl) (fun _ _ _ h => h) ?_ ?_
  rotate_left 1
  · (refine Or.inl ⟨by rfl, ?_⟩; intro w' hw'; have hq1 := hw'.fb.cell.1; have hq2 := hw'.ub.cell.1; unfold upv at hq2; (try go_simp); (try rfl); done)
  try simp only [Act.put, List.setIfInBounds_toArray, List.set_cons_zero, List.set_cons_succ]
  refine wpAnyS_take (i := 1) (v := ?_) hS (some 43) rfl rfl (by kernel_rfl) (by kernel_rfl) (by kernel_rfl) (fun _ _ _ h => h) ?_ ?_
  rotate_left 1
  · (refine Or.inl ⟨by rfl, ?_⟩; intro w' hw'; have hq1 := hw'.fb.cell.1; have hq2 := hw'.ub.cell.1; unfold upv at hq2; (try go_simp); (try rfl); done)
  try simp only [Act.put, List.setIfInBounds_toArray, List.set_cons_zero, List.set_cons_succ]
  refine wpAnyS_take (i := 2) (v := ?_) hS (some 44) rfl rfl (by kernel_rfl) (by kernel_rfl) (by kernel_rfl) (fun _ _ _ h => h) ?_ ?_
  rotate_left 1
  · (refine Or.inl ⟨by rfl, ?_⟩; intro w' hw'; have hq1 := hw'.fb.cell.1; have hq2 := hw'.ub.cell.1; unfold upv at hq2; (try go_simp); (try rfl); done)
  try simp only [Act.put, List.setIfInBounds_toArray, List.set_cons_zero, List.set_cons_succ]
  refine wpAnyS_take (i := 3) (v := ?_) hS (some 45) rfl rfl (by kernel_rfl) (by kernel_rfl) (by kernel_rfl) (fun _ _ _ h => h) ?_ ?_
  rotate_left 1
  · (refine Or.inl ⟨by rfl, ?_⟩; intro w' hw'; have hq1 := hw'.fb.cell.1; have hq2 := hw'.ub.cell.1; unfold upv at hq2; (try go_simp); (try rfl); done)
  try simp only [Act.put, List.setIfInBounds_toArray, List.set_cons_zero, List.set_cons_succ]
  refine wpAnyS_take (i := 4) (v := ?_) hS (some 46) rfl rfl (by kernel_rfl) (by kernel_rfl) (by kernel_rfl) (fun _ _ _ h => h) ?_ ?_
  rotate_left 1
  · (refine Or.inl ⟨by rfl, ?_⟩; intro w' hw'; have hq1 := hw'.fb.cell.1; have hq2 := hw'.ub.cell.1; unfold upv at hq2; (try go_simp); (try rfl); done)
  try simp only [Act.put, List.setIfInBounds_toArray, List.set_cons_zero, List.set_cons_succ]
  refine wpAnyS_take (i := 5) (v := ?_) hS (some 47) rfl rfl (by kernel_rfl) (by kernel_rfl) (by kernel_rfl) (fun _ _ _ h => h) ?_ ?_
  rotate_left 1
  · (refine Or.inl ⟨by rfl, ?_⟩; intro w' hw'; have hq1 := hw'.fb.cell.1; have hq2 := hw'.ub.cell.1; unfold upv at hq2; (try go_simp); (try rfl); done)
  try simp only [Act.put, List.setIfInBounds_toArray, List.set_cons_zero, List.set_cons_succ]
  refine wpAnyS_take (i := 6) (v := ?_) hS (some 48) rfl rfl (by kernel_rfl) (by kernel_rfl) (by kernel_rfl) (fun _ _ _ h => h) ?_ ?_
  rotate_left 1
  · (refine Or.inl ⟨by rfl, ?_⟩; intro w' hw'; have hq1 := hw'.fb.cell.1; have hq2 := hw'.ub.cell.1; unfold upv at hq2; (try go_simp); (try rfl); done)
  try simp only [Act.put, List.setIfInBounds_toArray, List.set_cons_zero, List.set_cons_succ]
  refine wpAnyS_take (i := 7) (v := ?_) hS (some 49) rfl rfl (by kernel_rfl) (by kernel_rfl) (by kernel_rfl) (fun _ _ _ h => h) ?_ ?_
  rotate_left 1
  · (refine Or.inl ⟨by rfl, ?_⟩; intro w' hw'; have hq1 := hw'.fb.cell.1; have hq2 := hw'.ub.cell.1; unfold upv at hq2; (try go_simp); (try rfl); done)
  try simp only [Act.put, List.setIfInBounds_toArray, List.set_cons_zero, List.set_cons_succ]
  refine wpAnyS_take (i := 8) (v := ?_) hS (some 50) rfl rfl (by kernel_rfl) (by kernel_rfl) (by kernel_rfl) (fun _ _ _ h => h) ?_ ?_
  rotate_left 1
  · (refine Or.inl ⟨by rfl, ?_⟩; intro w' hw'; have hq1 := hw'.fb.cell.1; have hq2 := hw'.ub.cell.1; unfold upv at hq2; (try go_simp); (try rfl); done)
  try simp only [Act.put, List.setIfInBounds_toArray, List.set_cons_zero, List.set_cons_succ]
  refine wpAnyS_take (i := 10) (v := ?_) hS (some 52) rfl rfl (by kernel_rfl) (by kernel_rfl) (by kernel_rfl) (fun _ _ _ h => h) ?_ ?_
  rotate_left 1
  · (refine Or.inl ⟨by rfl, ?_⟩; intro w' hw'; have hq1 := hw'.fb.cell.1; have hq2 := hw'.ub.cell.1; unfold upv at hq2; (try go_simp); (try rfl); done)
  try simp only [Act.put, List.setIfInBounds_toArray, List.set_cons_zero, List.set_cons_succ]
  refine wpAnyS_take (i := 11) (v := ?_) hS (some 53) rfl rfl (by kernel_rfl) (by kernel_rfl) (by kernel_rfl) (fun _ _ _ h => h) ?_ ?_
  rotate_left 1
  · (refine Or.inl ⟨by rfl, ?_⟩; intro w' hw'; have hq1 := hw'.fb.cell.1; have hq2 := hw'.ub.cell.1; unfold upv at hq2; (try go_simp); (try rfl); done)
  try simp only [Act.put, List.setIfInBounds_toArray, List.set_cons_zero, List.set_cons_succ]
  refine wpAnyS_take (i := 12) (v := ?_) hS (some 54) rfl rfl (by kernel_rfl) (by kernel_rfl) (by kernel_rfl) (fun _ _ _ h => h) ?_ ?_
  rotate_left 1
  · (refine Or.inl ⟨by rfl, ?_⟩; intro w' hw'; have hq1 := hw'.fb.cell.1; have hq2 := hw'.ub.cell.1; unfold upv at hq2; (try go_simp); (try rfl); done)
  try simp only [Act.put, List.setIfInBounds_toArray, List.set_cons_zero, List.set_cons_succ]
  refine wpAnyS_take (i := 13) (v := ?_) hS (some 55) rfl rfl (by kernel_rfl) (by kernel_rfl) (by kernel_rfl) (fun _ _ _ h => h) ?_ ?_
  rotate_left 1
  · (refine Or.inl ⟨by rfl, ?_⟩; intro w' hw'; have hq1 := hw'.fb.cell.1; have hq2 := hw'.ub.cell.1; unfold upv at hq2; (refine arr_dg.exAt' (hrd.below' hw'.below) hd1 (.tmp 54) ?_ ?_ <;> rfl))
  try simp only [Act.put, List.setIfInBounds_toArray, List.set_cons_zero, List.set_cons_succ]
  refine wpAnyS_take (i := 15) (v := ?_) hS (some 57) rfl rfl (by kernel_rfl) (by kernel_rfl) (by kernel_rfl) (fun _ _ _ h => h) ?_ ?_
  rotate_left 1
  · (refine Or.inl ⟨by rfl, ?_⟩; intro w' hw'; have hq1 := hw'.fb.cell.1; have hq2 := hw'.ub.cell.1; unfold upv at hq2; (try go_simp); (try rfl); done)
  try simp only [Act.put, List.setIfInBounds_toArray, List.set_cons_zero, List.set_cons_succ]
  refine wpAnyS_one (i := 9) rfl (by kernel_rfl) (by rfl) (fun K hK => ?_)
  go_simp
  have hm := hup W.drew hS (hF1.below (ext_drew _)) (hG1.below (ext_drew _))
  (with_reducible refine hm.mono ?_); rintro e w5 ⟨rfl, f5, g5, m5⟩
  have but5 := but1.trans ((But.of (ext_drew _) he1.below.size).trans m5)
  have r5 := RowT.but (r0.below (ext_drew _)) m5 nR5.out nR4.out
  have hb := hS.but D m5
  refine hK.out _ _ hb ?_
  replace hS := hb
  clear hK K hb
  try simp only [Act.put, List.setIfInBounds_toArray, List.set_cons_zero, List.set_cons_succ]
  refine wpAnyS_one (i := 14) rfl (by kernel_rfl) (by rfl) (fun K hK => ?_)
  go_simp
  (with_reducible refine (hnd _).mono ?_); rintro e w6 ⟨v6, rfl, s6, b6⟩
  have but6 := but5.trans (But.of b6 hS.below.size)
  have f6 := f5.below b6
  have g6 := g5.below b6
  have r6 := r5.below b6
  have hb := hS.ext b6
  refine hK.out _ _ hb ?_
  replace hS := hb
  clear hK K hb
  try simp only [Act.put, List.setIfInBounds_toArray, List.set_cons_zero, List.set_cons_succ]
  refine wpAnyS_one (i := 16) rfl (by kernel_rfl) (by rfl) (fun K hK => ?_)
  go_simp
  have hm := met_any F g k wy.p v6 (.slice A l.length c) t l w6 hk f6 (hg.below hS.below) s6 (by rw [htl]; decide) (hl.below hS.below) hll hz
  (with_reducible refine hm.mono ?_); rintro e w7 ⟨rfl, f7, m7⟩
  have but7 := but6.trans (m7.wide.narrow D.f0)
  have hb := hS.but D (m7.wide.narrow D.f0)
  have r7 := r6.but m7.wide (G := G) nR5.out nR4.out
  have g7 := g6.but m7.wide (G := F) (fun e => D.ne e.symm) (fun e => D.ne e.symm)
  refine hK.out _ _ hb ?_
  replace hS := hb
  clear hK K hb
  try simp only [Act.put, List.setIfInBounds_toArray, List.set_cons_zero, List.set_cons_succ]
  refine wpAnyS_one (i := 17) rfl (by kernel_rfl) (by rfl) (fun K hK => ?_)
  refine arr_dg.store r7 zer_length hdl _ _ rfl rfl rfl ?_
  have hb := hS.row nR.out nR1.out nR2.out nR3.out (bs (hashL k t)).toArray
  have f8 := f7.row r7 (bs (hashL k t)).toArray
  have g8 := g7.row (fun e => nR4.out e.symm) (bs (hashL k t)).toArray
  have but8 := but7.setRow (Nat.le_refl _) nR.out (bs (hashL k t)).toArray
  have hret := arr_dg.loadVar (r7.setRow (hashL k t)) hdl
  refine hK.out _ _ hb ?_
  replace hS := hb
  clear hK K hb
  try simp only [Act.put, List.setIfInBounds_toArray, List.set_cons_zero, List.set_cons_succ]
  refine wpAnyS_done (by kernel_rfl) ?_ _
  go_wp2_with fail
  exact ret_cell (v := dg (hashL k t)) Try.results36 rfl hret rfl ⟨rfl, f8, g8, but8⟩
set_option maxHeartbeats 8000000 in
theorem up_right (w0 : World) (F G FB LB UB g k : Nat) (vb : Value) (hk : k ≤ 256) (D : Dis w0 F G FB LB UB) (A Ap : Option Addr) (c cp : Nat) (l : List (List UInt8)) (i j : Nat) (ps : List (List UInt8)) (wy : WayL) (w : World)
    (he : Env w0 F G FB LB UB vb w) (hF : FindAt w F g none) (hG : C1 4 w G (.bool true)) (hg : HvAt w0 g k) (hl : SlX w0 (.slice A l.length c) l) (h2 : 2 ≤ l.length) (hll : l.length ≤ 1048576) (hz : ∀ z ∈ l, z.length ≤ 1048576)
    (hp : SlD w0 (.slice Ap ps.length cp) ps) (h0 : 0 < ps.length) (hj : kOf l.length = j) (hij : j ≤ i) (hil : i < l.length) (hnl : wy.new.length = 32)
    (hup : ∀ w', Env w0 F G FB LB UB vb w' → FindAt w' F g none → C1 4 w' G (.bool true) →
      Calls Try.prog 36 #[.slice (slA A j c 1) (l.length - j) (c - j), .int .i64 ((i : Int) - j), .slice Ap (ps.length - 1) cp, .pointer (some ⟨G, 0, none⟩), .pointer (some ⟨FB, 0, none⟩), .pointer (some ⟨LB, 0, none⟩), .pointer (some ⟨UB, 0, none⟩)] w'
        fun e w'' => e = .returned (dg wy.new) ∧ FindAt w'' F g wy.p ∧ C1 4 w'' G (.bool wy.fits) ∧ But w0.heap.size F G w' w'') :
    Calls Try.prog 36 #[.slice A l.length c, .int .i64 i, .slice Ap ps.length cp, .pointer (some ⟨G, 0, none⟩), .pointer (some ⟨FB, 0, none⟩), .pointer (some ⟨LB, 0, none⟩), .pointer (some ⟨UB, 0, none⟩)] w
      fun e w' => e = .returned (dg (stepL k wy (ndL (lastL ps) wy.new) l).new) ∧ FindAt w' F g (stepL k wy (ndL (lastL ps) wy.new) l).p ∧ C1 4 w' G (.bool wy.fits) ∧ But w0.heap.size F G w w' := by
  have e1 : (stepL k wy (ndL (lastL ps) wy.new) l).new = hashL k (ndL (lastL ps) wy.new) := rfl
  have e2 : (stepL k wy (ndL (lastL ps) wy.new) l).p = metL k wy.p (ndL (lastL ps) wy.new) (textL k l) := rfl
  rw [e1, e2]
  clear e1 e2
  obtain ⟨ad, rfl, hrd⟩ := hp.get (i := ps.length - 1) (by omega)
  have hd1 := hp.len32 (i := ps.length - 1) (by omega)
  have hlast : lastL ps = ps.getD (ps.length - 1) [] := rfl
  rw [← hlast] at hrd hd1
  clear hlast
  have hkl := kOf_lt (n := l.length) h2 (by omega)
  rw [hj] at hkl
  have hcl : l.length ≤ c := by obtain ⟨_, _, e, h, _⟩ := hl.len; cases e; exact h
  have hcp : ps.length ≤ cp := by obtain ⟨_, _, e, h, _⟩ := hp.1; cases e; exact h
  have hcpm : cp ≤ 9223372036854775807 := by obtain ⟨_, _, e, _, h, _⟩ := hp.1; cases e; exact h
  have hh := fun w' => half_any l.length w' h2 hll
  rw [hj] at hh
  have hnd := fun w' => node_own (lastL ps) wy.new hd1 hnl w'
  have htl : (ndL (lastL ps) wy.new).length = 65 := ndL_length _ _ hd1 hnl
  generalize lastL ps = lst at *
  generalize ndL lst wy.new = t at *
  have q1 : ((l.length : Int) == 1) = false := by rw [beq_eq_false_iff_ne]; omega
  have hps : (ps.length : Int) ≤ 9223372036854775807 := by omega
  have j0 : (0 : Int) ≤ (ps.length : Int) - 1 := by omega
  have j1 : (ps.length : Int) - 1 < ps.length := by omega
  have j4 : (1 : Int) ≤ ps.length := by omega
  have j2 : ((ps.length : Int) - 1).toNat = ps.length - 1 := by omega
  have j3 : (ps.length : Int) - 1 ≤ cp := by omega
  have g1 : (j : Int) ≤ c := by omega
  have g2 : ¬ (i : Int) < j := by omega
  have g3 : (j : Int) ≤ l.length := by omega
  have wij : IntKind.i64.wrap ((i : Int) - j) = (i : Int) - j := by rw [IntKind.wrap_i64]; omega
  have r0 : RowT 38 (w.alloc (.cells (bs zer).toArray 38 (0, 0))) w.heap.size zer := heap_alloc_new _ _
  have b0 := ext_alloc w (.cells (bs zer).toArray 38 (0, 0))
  have hG1 := hG.below b0
  have he1 := he.ext b0
  have hF1 := hF.below b0
  have but1 : But w0.heap.size F G w (w.alloc (.cells (bs zer).toArray 38 (0, 0))) := But.of b0 he.below.size
  have hdl := hashL_length k t
  have nR1 : Hid (FB ≠ w.heap.size) := by have := he.fb.lt; unfold Hid; omega
  have nR2 : Hid (LB ≠ w.heap.size) := by have := he.lb.lt; unfold Hid; omega
  have nR3 : Hid (UB ≠ w.heap.size) := by have := he.ub.lt; unfold Hid; omega
  have nR : Hid (w0.heap.size ≤ w.heap.size) := he.below.size
  have nR4 : Hid (w.heap.size ≠ G) := by have := hG.lt; unfold Hid; omega
  have nR5 : Hid (w.heap.size ≠ F) := by have := hF.lt; unfold Hid; omega
  replace hj : Hid _ := hj
  clear b0 hG hF he hkl hcl hcp hcpm
  go_enter Try.func36, Try.ntmps36
  go_wp2_with fail
  (with_reducible refine (hh _).mono ?_); rintro e w' ⟨rfl, rfl⟩
  go_wp2_with fail
  generalize hW : World.alloc w _ = W
  have hW2 : w.alloc (.cells (bs zer).toArray 38 (0, 0)) = W := by rw [← hW]; rfl
  rw [hW2] at but1 he1 hG1 hF1 r0
  clear hW hW2 hh
  have hS : Env w0 F G FB LB UB vb W.drew := he1.ext (ext_drew _)
  refine wp_region_S (fun w' => Env w0 F G FB LB UB vb w') (by kernel_rfl) ?_
  refine wpAnyS_take (i := 0) (v := ?_) hS (some 59) rfl rfl (by kernel_rfl) (by kernel_rfl) (by kernel_rfl) (fun _ _ _ h => h) ?_ ?_
  rotate_left 1
  · (refine Or.inl ⟨by rfl, ?_⟩; intro w' hw'; have hq1 := hw'.fb.cell.1; have hq2 := hw'.ub.cell.1; unfold upv at hq2; (try go_simp); (try rfl); done)
  try simp only [Act.put, List.setIfInBounds_toArray, List.set_cons_zero, List.set_cons_succ]
  refine wpAnyS_take (i := 1) (v := ?_) hS (some 60) rfl rfl (by kernel_rfl) (by kernel_rfl) (by kernel_rfl) (fun _ _ _ h => h) ?_ ?_
  rotate_left 1
  · (refine Or.inl ⟨by rfl, ?_⟩; intro w' hw'; have hq1 := hw'.fb.cell.1; have hq2 := hw'.ub.cell.1; unfold upv at hq2; (try go_simp); (try rfl); done)
  try simp only [Act.put, List.setIfInBounds_toArray, List.set_cons_zero, List.set_cons_succ]
  refine wpAnyS_take (i := 2) (v := ?_) hS (some 61) rfl rfl (by kernel_rfl) (by kernel_rfl) (by kernel_rfl) (fun _ _ _ h => h) ?_ ?_
  rotate_left 1
  · (refine Or.inl ⟨by rfl, ?_⟩; intro w' hw'; have hq1 := hw'.fb.cell.1; have hq2 := hw'.ub.cell.1; unfold upv at hq2; (try go_simp); (try rfl); done)
  try simp only [Act.put, List.setIfInBounds_toArray, List.set_cons_zero, List.set_cons_succ]
  refine wpAnyS_take (i := 3) (v := ?_) hS (some 62) rfl rfl (by kernel_rfl) (by kernel_rfl) (by kernel_rfl) (fun _ _ _ h => h) ?_ ?_
  rotate_left 1
  · (refine Or.inl ⟨by rfl, ?_⟩; intro w' hw'; have hq1 := hw'.fb.cell.1; have hq2 := hw'.ub.cell.1; unfold upv at hq2; (try go_simp); (try rfl); done)
  try simp only [Act.put, List.setIfInBounds_toArray, List.set_cons_zero, List.set_cons_succ]
  refine wpAnyS_take (i := 4) (v := ?_) hS (some 63) rfl rfl (by kernel_rfl) (by kernel_rfl) (by kernel_rfl) (fun _ _ _ h => h) ?_ ?_
  rotate_left 1
  · (refine Or.inl ⟨by rfl, ?_⟩; intro w' hw'; have hq1 := hw'.fb.cell.1; have hq2 := hw'.ub.cell.1; unfold upv at hq2; (refine arr_dg.exAt' (hrd.below' hw'.below) hd1 (.tmp 62) ?_ ?_ <;> rfl))
  try simp only [Act.put, List.setIfInBounds_toArray, List.set_cons_zero, List.set_cons_succ]
  refine wpAnyS_take (i := 5) (v := ?_) hS (some 64) rfl rfl (by kernel_rfl) (by kernel_rfl) (by kernel_rfl) (fun _ _ _ h => h) ?_ ?_
  rotate_left 1
  · (refine Or.inl ⟨by rfl, ?_⟩; intro w' hw'; have hq1 := hw'.fb.cell.1; have hq2 := hw'.ub.cell.1; unfold upv at hq2; (try go_simp); (try rfl); done)
  try simp only [Act.put, List.setIfInBounds_toArray, List.set_cons_zero, List.set_cons_succ]
  refine wpAnyS_take (i := 6) (v := ?_) hS (some 65) rfl rfl (by kernel_rfl) (by kernel_rfl) (by kernel_rfl) (fun _ _ _ h => h) ?_ ?_
  rotate_left 1
  · (refine Or.inl ⟨by rfl, ?_⟩; intro w' hw'; have hq1 := hw'.fb.cell.1; have hq2 := hw'.ub.cell.1; unfold upv at hq2; (try go_simp); (try rfl); done)
  try simp only [Act.put, List.setIfInBounds_toArray, List.set_cons_zero, List.set_cons_succ]
  refine wpAnyS_take (i := 7) (v := ?_) hS (some 66) rfl rfl (by kernel_rfl) (by kernel_rfl) (by kernel_rfl) (fun _ _ _ h => h) ?_ ?_
  rotate_left 1
  · (refine Or.inl ⟨by rfl, ?_⟩; intro w' hw'; have hq1 := hw'.fb.cell.1; have hq2 := hw'.ub.cell.1; unfold upv at hq2; (try go_simp); (try rfl); done)
  try simp only [Act.put, List.setIfInBounds_toArray, List.set_cons_zero, List.set_cons_succ]
  refine wpAnyS_take (i := 8) (v := ?_) hS (some 67) rfl rfl (by kernel_rfl) (by kernel_rfl) (by kernel_rfl) (fun _ _ _ h => h) ?_ ?_
  rotate_left 1
  · (refine Or.inl ⟨by rfl, ?_⟩; intro w' hw'; have hq1 := hw'.fb.cell.1; have hq2 := hw'.ub.cell.1; unfold upv at hq2; (try go_simp); (try rfl); done)
  try simp only [Act.put, List.setIfInBounds_toArray, List.set_cons_zero, List.set_cons_succ]
  refine wpAnyS_take (i := 9) (v := ?_) hS (some 68) rfl rfl (by kernel_rfl) (by kernel_rfl) (by kernel_rfl) (fun _ _ _ h => h) ?_ ?_
  rotate_left 1
  · (refine Or.inl ⟨by rfl, ?_⟩; intro w' hw'; have hq1 := hw'.fb.cell.1; have hq2 := hw'.ub.cell.1; unfold upv at hq2; (try go_simp); (try rfl); done)
  try simp only [Act.put, List.setIfInBounds_toArray, List.set_cons_zero, List.set_cons_succ]
  refine wpAnyS_take (i := 10) (v := ?_) hS (some 69) rfl rfl (by kernel_rfl) (by kernel_rfl) (by kernel_rfl) (fun _ _ _ h => h) ?_ ?_
  rotate_left 1
  · (refine Or.inl ⟨by rfl, ?_⟩; intro w' hw'; have hq1 := hw'.fb.cell.1; have hq2 := hw'.ub.cell.1; unfold upv at hq2; (try go_simp); (try rfl); done)
  try simp only [Act.put, List.setIfInBounds_toArray, List.set_cons_zero, List.set_cons_succ]
  refine wpAnyS_take (i := 11) (v := ?_) hS (some 70) rfl rfl (by kernel_rfl) (by kernel_rfl) (by kernel_rfl) (fun _ _ _ h => h) ?_ ?_
  rotate_left 1
  · (refine Or.inl ⟨by rfl, ?_⟩; intro w' hw'; have hq1 := hw'.fb.cell.1; have hq2 := hw'.ub.cell.1; unfold upv at hq2; (try go_simp); (try rfl); done)
  try simp only [Act.put, List.setIfInBounds_toArray, List.set_cons_zero, List.set_cons_succ]
  refine wpAnyS_take (i := 12) (v := ?_) hS (some 71) rfl rfl (by kernel_rfl) (by kernel_rfl) (by kernel_rfl) (fun _ _ _ h => h) ?_ ?_
  rotate_left 1
  · (refine Or.inl ⟨by rfl, ?_⟩; intro w' hw'; have hq1 := hw'.fb.cell.1; have hq2 := hw'.ub.cell.1; unfold upv at hq2; (try go_simp); (try rfl); done)
  try simp only [Act.put, List.setIfInBounds_toArray, List.set_cons_zero, List.set_cons_succ]
  refine wpAnyS_take (i := 13) (v := ?_) hS (some 72) rfl rfl (by kernel_rfl) (by kernel_rfl) (by kernel_rfl) (fun _ _ _ h => h) ?_ ?_
  rotate_left 1
  · (refine Or.inl ⟨by rfl, ?_⟩; intro w' hw'; have hq1 := hw'.fb.cell.1; have hq2 := hw'.ub.cell.1; unfold upv at hq2; (try go_simp); (try rfl); done)
  try simp only [Act.put, List.setIfInBounds_toArray, List.set_cons_zero, List.set_cons_succ]
  refine wpAnyS_take (i := 14) (v := ?_) hS (some 73) rfl rfl (by kernel_rfl) (by kernel_rfl) (by kernel_rfl) (fun _ _ _ h => h) ?_ ?_
  rotate_left 1
  · (refine Or.inl ⟨by rfl, ?_⟩; intro w' hw'; have hq1 := hw'.fb.cell.1; have hq2 := hw'.ub.cell.1; unfold upv at hq2; (try go_simp); (try rfl); done)
  try simp only [Act.put, List.setIfInBounds_toArray, List.set_cons_zero, List.set_cons_succ]
  refine wpAnyS_take (i := 17) (v := ?_) hS (some 76) rfl rfl (by kernel_rfl) (by kernel_rfl) (by kernel_rfl) (fun _ _ _ h => h) ?_ ?_
  rotate_left 1
  · (refine Or.inl ⟨by rfl, ?_⟩; intro w' hw'; have hq1 := hw'.fb.cell.1; have hq2 := hw'.ub.cell.1; unfold upv at hq2; (try go_simp); (try rfl); done)
  try simp only [Act.put, List.setIfInBounds_toArray, List.set_cons_zero, List.set_cons_succ]
  refine wpAnyS_one (i := 15) rfl (by kernel_rfl) (by rfl) (fun K hK => ?_)
  go_simp
  have hm := hup W.drew hS (hF1.below (ext_drew _)) (hG1.below (ext_drew _))
  (with_reducible refine hm.mono ?_); rintro e w5 ⟨rfl, f5, g5, m5⟩
  have but5 := but1.trans ((But.of (ext_drew _) he1.below.size).trans m5)
  have r5 := RowT.but (r0.below (ext_drew _)) m5 nR5.out nR4.out
  have hb := hS.but D m5
  refine hK.out _ _ hb ?_
  replace hS := hb
  clear hK K hb
  try simp only [Act.put, List.setIfInBounds_toArray, List.set_cons_zero, List.set_cons_succ]
  refine wpAnyS_one (i := 16) rfl (by kernel_rfl) (by rfl) (fun K hK => ?_)
  go_simp
  (with_reducible refine (hnd _).mono ?_); rintro e w6 ⟨v6, rfl, s6, b6⟩
  have but6 := but5.trans (But.of b6 hS.below.size)
  have f6 := f5.below b6
  have g6 := g5.below b6
  have r6 := r5.below b6
  have hb := hS.ext b6
  refine hK.out _ _ hb ?_
  replace hS := hb
  clear hK K hb
  try simp only [Act.put, List.setIfInBounds_toArray, List.set_cons_zero, List.set_cons_succ]
  refine wpAnyS_one (i := 18) rfl (by kernel_rfl) (by rfl) (fun K hK => ?_)
  go_simp
  have hm := met_any F g k wy.p v6 (.slice A l.length c) t l w6 hk f6 (hg.below hS.below) s6 (by rw [htl]; decide) (hl.below hS.below) hll hz
  (with_reducible refine hm.mono ?_); rintro e w7 ⟨rfl, f7, m7⟩
  have but7 := but6.trans (m7.wide.narrow D.f0)
  have hb := hS.but D (m7.wide.narrow D.f0)
  have r7 := r6.but m7.wide (G := G) nR5.out nR4.out
  have g7 := g6.but m7.wide (G := F) (fun e => D.ne e.symm) (fun e => D.ne e.symm)
  refine hK.out _ _ hb ?_
  replace hS := hb
  clear hK K hb
  try simp only [Act.put, List.setIfInBounds_toArray, List.set_cons_zero, List.set_cons_succ]
  refine wpAnyS_one (i := 19) rfl (by kernel_rfl) (by rfl) (fun K hK => ?_)
  refine arr_dg.store r7 zer_length hdl _ _ rfl rfl rfl ?_
  have hb := hS.row nR.out nR1.out nR2.out nR3.out (bs (hashL k t)).toArray
  have f8 := f7.row r7 (bs (hashL k t)).toArray
  have g8 := g7.row (fun e => nR4.out e.symm) (bs (hashL k t)).toArray
  have but8 := but7.setRow (Nat.le_refl _) nR.out (bs (hashL k t)).toArray
  have hret := arr_dg.loadVar (r7.setRow (hashL k t)) hdl
  refine hK.out _ _ hb ?_
  replace hS := hb
  clear hK K hb
  try simp only [Act.put, List.setIfInBounds_toArray, List.set_cons_zero, List.set_cons_succ]
  refine wpAnyS_done (by kernel_rfl) ?_ _
  go_wp2_with fail
  exact ret_cell (v := dg (hashL k t)) Try.results36 rfl hret rfl ⟨rfl, f8, g8, but8⟩
/-- What the closure does. -/
theorem up_any (w0 : World) (F G FB LB UB g k : Nat) (vb : Value) (b : List UInt8) (hk : k ≤ 256) (D : Dis w0 F G FB LB UB) (hg : HvAt w0 g k) (hsb : SlB w0 vb b) (bl : b.length ≤ 1048576) :
    ∀ (n : Nat) (vl : Value) (l : List (List UInt8)) (i : Nat) (vp : Value) (ps : List (List UInt8)) (w : World), l.length ≤ n → n ≤ 1048576 → i < l.length → (∀ z ∈ l, z.length ≤ 1048576) → SlX w0 vl l → SlD w0 vp ps →
      Env w0 F G FB LB UB vb w → FindAt w F g none → C1 4 w G (.bool true) →
      Calls Try.prog 36 #[vl, .int .i64 i, vp, .pointer (some ⟨G, 0, none⟩), .pointer (some ⟨FB, 0, none⟩), .pointer (some ⟨LB, 0, none⟩), .pointer (some ⟨UB, 0, none⟩)] w
        fun e w' => e = .returned (dg (upN k b n l i ps).new) ∧ FindAt w' F g (upN k b n l i ps).p ∧ C1 4 w' G (.bool (upN k b n l i ps).fits) ∧ But w0.heap.size F G w w' := by
  intro n
  induction n with
  | zero => intro vl l i vp ps w h1 _ h2; omega
  | succ n ih =>
    intro vl l i vp ps w hln hn hi hz hl hp he hF hG
    by_cases h1 : l.length = 1
    · obtain ⟨x, rfl⟩ : ∃ x, l = [x] := by
        match l, h1 with
        | [x], _ => exact ⟨x, rfl⟩
      have e : upN k b (n + 1) [x] i ps = stepL k ⟨zer, zer, none, decide (ps.length = 0)⟩ (0 :: b) [x] := by unfold upN; rw [if_pos h1]
      rw [e]
      exact up_leaf w0 F G FB LB UB g k vb b hk D vl x i vp ps w he hF hG hg hsb bl hl (hz x (by simp)) hp
    · by_cases h0 : ps.length = 0
      · have e : upN k b (n + 1) l i ps = ⟨zer, zer, none, false⟩ := by unfold upN; rw [if_neg h1, if_pos h0]
        rw [e]
        exact up_none w0 F G FB LB UB g vb D vl l i vp ps w he hF hG hl h1 hp h0
      · have hkl := kOf_lt (n := l.length) (by omega) (by omega)
        obtain ⟨A, c, rfl, hc, hcm⟩ := hl.len
        obtain ⟨Ap, cp, rfl, hcp, hcpm, _⟩ := id hp.1
        have hpi := hp.slice 0 (ps.length - 1) (by omega) (by omega)
        simp only [List.drop_zero, Nat.sub_zero, slA_zero] at hpi
        by_cases h2 : i < kOf l.length
        · have e : upN k b (n + 1) l i ps = stepL k (upN k b n (l.take (kOf l.length)) i (initL ps)) (ndL (upN k b n (l.take (kOf l.length)) i (initL ps)).new (lastL ps)) l := by
            conv => lhs; unfold upN
            rw [if_neg h1, if_neg h0, if_pos h2]
          rw [e]
          have hL0 := hl.slice 0 (kOf l.length) (by omega) (by omega)
          simp only [List.drop_zero, Nat.sub_zero, slA_zero] at hL0
          have hnl := (upN_ok (k := k) bl n (l.take (kOf l.length)) i (initL ps) (by rw [List.length_take]; omega) (fun z h => hz z (List.mem_of_mem_take h)) (fun d hd => hp.2 d (initL_mem hd))).2
          exact up_left w0 F G FB LB UB g k vb hk D A Ap c cp l i (kOf l.length) ps _ w he hF hG hg hl (by omega) (by omega) hz hp (by omega) rfl h2 hnl
            (fun w' a1 a2 a3 => ih _ (l.take (kOf l.length)) i _ (initL ps) w' (by rw [List.length_take]; omega) (by omega) (by rw [List.length_take]; omega) (fun z h => hz z (List.mem_of_mem_take h)) hL0 hpi a1 a2 a3)
        · have e : upN k b (n + 1) l i ps = stepL k (upN k b n (l.drop (kOf l.length)) (i - kOf l.length) (initL ps)) (ndL (lastL ps) (upN k b n (l.drop (kOf l.length)) (i - kOf l.length) (initL ps)).new) l := by
            conv => lhs; unfold upN
            rw [if_neg h1, if_neg h0, if_neg h2]
          rw [e]
          have hR0 := hl.slice (kOf l.length) l.length (by omega) (Nat.le_refl _)
          rw [List.take_of_length_le (by simp)] at hR0
          have hnl := (upN_ok (k := k) bl n (l.drop (kOf l.length)) (i - kOf l.length) (initL ps) (by rw [List.length_drop]; omega) (fun z h => hz z (List.mem_of_mem_drop h)) (fun d hd => hp.2 d (initL_mem hd))).2
          refine up_right w0 F G FB LB UB g k vb hk D A Ap c cp l i (kOf l.length) ps _ w he hF hG hg hl (by omega) (by omega) hz hp (by omega) rfl (by omega) hi hnl ?_
          intro w' a1 a2 a3
          have := ih _ (l.drop (kOf l.length)) (i - kOf l.length) _ (initL ps) w' (by rw [List.length_drop]; omega) (by omega) (by rw [List.length_drop]; omega) (fun z h => hz z (List.mem_of_mem_drop h)) hR0 hpi a1 a2 a3
          rw [show ((i - kOf l.length : Nat) : Int) = (i : Int) - (kOf l.length : Nat) by omega] at this
          exact this
end Go.Proofs.Ytnpbapefjbfndaa
