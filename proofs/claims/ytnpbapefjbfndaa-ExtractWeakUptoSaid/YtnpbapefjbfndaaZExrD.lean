/- up of the reference: the left part, the right part; all of it (walks). -/
import Derived.Test.YtnpbapefjbfndaaZXr
set_option linter.unusedVariables false
set_option linter.unusedSimpArgs false
set_option maxRecDepth 10000
namespace Go.Proofs.Ytnpbapefjbfndaa
open Go.RowKit
attribute [local go_sem high] dg_cells guard_dg wy_cells rs_l rs_lh rs_lhm rs_h rs_hm rs_all

theorem upN_old (k : Nat) (b : List UInt8) : ∀ (n : Nat) (l : List (List UInt8)) (i : Nat) (ps : List (List UInt8)), (upN k b n l i ps).old.length = 32
  | 0, _, _, _ => rfl
  | n + 1, l, i, ps => by
    unfold upN
    split
    · rfl
    · split
      · rfl
      · split
        · exact upN_old k b n _ _ _
        · exact upN_old k b n _ _ _
set_option maxHeartbeats 16000000 in
theorem rup_left (k : Nat) (hk : k ≤ 256) (A Ap : Option Addr) (c cp : Nat) (l : List (List UInt8)) (i j : Nat) (vb : Value) (ps : List (List UInt8)) (wl : WayL) (w : World)
    (hl : SlX w (.slice A l.length c) l) (h2 : 2 ≤ l.length) (hll : l.length ≤ 1048576) (hz : ∀ z ∈ l, z.length ≤ 1048576) (hp : SlD w (.slice Ap ps.length cp) ps) (h0 : 0 < ps.length) (hj : kOf l.length = j) (hij : i < j)
    (hup : ∀ w', Ext w w' → Calls Try.prog 41 #[.int .i64 k, .slice A j c, .int .i64 i, vb, .slice Ap (ps.length - 1) cp] w' fun e w'' => ∃ va vb, e = .returned (wayOf wl va vb) ∧ WayV w'' va vb wl ∧ Below w'.heap.size w' w'')
    (hnl : wl.new.length = 32) (hol : wl.old.length = 32) :
    Calls Try.prog 41 #[.int .i64 k, .slice A l.length c, .int .i64 i, vb, .slice Ap ps.length cp] w fun e w' => ∃ va vb, e = .returned (wayOf (stepL k wl (ndL wl.new (lastL ps)) l) va vb) ∧ WayV w' va vb (stepL k wl (ndL wl.new (lastL ps)) l) ∧ Below w.heap.size w w' := by
  have hR := rowY_new w
  have b0 := ext_alloc w (.cells (wyC zer zer nilV nilV false false).toArray 72 (0, 0))
  obtain ⟨ad, rfl, hrd⟩ := hp.get (i := ps.length - 1) (by omega)
  have hd1 := hp.len32 (i := ps.length - 1) (by omega)
  have hlast : lastL ps = ps.getD (ps.length - 1) [] := rfl
  rw [← hlast] at hrd hd1
  clear hlast
  have hkl := kOf_lt (n := l.length) h2 (by omega)
  rw [hj] at hkl
  have hcl : l.length ≤ c := by obtain ⟨_, _, e, h, _⟩ := hl.len; cases e; exact h
  have hcp : ps.length ≤ cp := by obtain ⟨_, _, e, h, _⟩ := hp.1; cases e; exact h
  have hcpm : cp ≤ 9223372036854775807 := by obtain ⟨_, _, e, _, h, _⟩ := hp.1; cases e; exact h
  have hh := fun w' => rhalf_any l.length w' h2 hll
  rw [hj] at hh
  have hnd := fun w' => rnode_own wl.new (lastL ps) hnl hd1 w'
  have htl : (ndL wl.new (lastL ps)).length = 65 := ndL_length _ _ hnl hd1
  generalize lastL ps = lst at *
  generalize ndL wl.new lst = t at *
  have q1 : ((l.length : Int) == 1) = false := by rw [beq_eq_false_iff_ne]; omega
  have q2 : ((ps.length : Int) == 0) = false := by rw [beq_eq_false_iff_ne]; omega
  have hps : (ps.length : Int) ≤ 9223372036854775807 := by omega
  have j0 : (0 : Int) ≤ (ps.length : Int) - 1 := by omega
  have j1 : (ps.length : Int) - 1 < ps.length := by omega
  have j4 : (1 : Int) ≤ ps.length := by omega
  have j2 : ((ps.length : Int) - 1).toNat = ps.length - 1 := by omega
  have j3 : (ps.length : Int) - 1 ≤ cp := by omega
  have j5 : IntKind.i64.wrap ((ps.length : Int) - 1) = (ps.length : Int) - 1 := by rw [IntKind.wrap_i64]; omega
  have g1 : (j : Int) ≤ c := by omega
  have g2 : (i : Int) < j := by omega
  have hrd0 := hrd.below' b0
  obtain ⟨h3, h4, b2, z2⟩ := alloc2 (w := w) (o1 := .cells (wyC zer zer nilV nilV false false).toArray 72 (0, 0)) (o2 := .cells (bs zer).toArray 38 (0, 0)) rfl
  have hR0 : RowY _ w.heap.size zer zer nilV nilV false false := h3
  have hL0 : RowT 38 _ (w.heap.size + 1) zer := h4
  have cur0 : CurR w w.heap.size (w.heap.size + 1) lst none none (((w.alloc (.cells (wyC zer zer nilV nilV false false).toArray 72 (0, 0))).alloc (.cells (bs zer).toArray 38 (0, 0))).setRow (w.heap.size + 1) (bs lst).toArray) :=
    ⟨below_setRow b2 (Nat.le_succ w.heap.size) _, hR0.row (by omega) _, hL0.setRow lst, Nat.lt_succ_self _, Nat.le_refl _, (fun _ _ _ e => by cases e), (fun B e => by cases e)⟩
  replace hj : Hid _ := hj
  clear hkl hcl hcp hcpm hR b0 hrd h3 h4 b2 z2 hR0
  go_enter Try.func41, Try.ntmps41
  go_wp2_with fail
  refine (hh _).mono ?_; rintro e w' ⟨rfl, rfl⟩
  go_upto_region 8 with (first
    | ((with_reducible refine at_load ?_); refine arr_dg.loadAtL hrd0 (by rfl) hd1 _ rfl rfl ?_)
    | ((with_reducible refine at_store ?_); refine arr_dg.storeL hL0 zer_length rfl hd1 _ _ rfl rfl rfl ?_))
  generalize hW : World.setRow (World.alloc (World.alloc w _) _) _ _ = W
  have hW2 : ((w.alloc (.cells (wyC zer zer nilV nilV false false).toArray 72 (0, 0))).alloc (.cells (bs zer).toArray 38 (0, 0))).setRow (w.heap.size + 1) (bs lst).toArray = W := by rw [← hW]; rfl
  rw [hW2] at cur0
  clear hW hW2 hh hrd0 hL0
  go_cut [13] (fun s13 wx => ∃ D va vb, s13 = .pointer (some ⟨D, 0, none⟩) ∧ CutR w w.heap.size (w.heap.size + 1) D lst wl va vb wx)
  case first =>
    have cur := CurR.ext cur0 (ext_drew _)
    have hS := cur.below
    clear cur0 hnd hd1
    refine wp_region_S (fun w' => Below w.heap.size w w') (by kernel_rfl) ?_
    refine wpAnyS_take (i := 0) (v := ?_) hS (some 43) rfl rfl (by kernel_rfl) (by kernel_rfl) (by kernel_rfl) (fun _ _ _ h => h) ?_ ?_
    rotate_left 1
    · (refine Or.inl ⟨by rfl, ?_⟩; intro w' hw'; (try go_simp); (try rfl); done)
    try simp only [Act.put, List.setIfInBounds_toArray, List.set_cons_zero, List.set_cons_succ]
    refine wpAnyS_take (i := 1) (v := ?_) hS (some 44) rfl rfl (by kernel_rfl) (by kernel_rfl) (by kernel_rfl) (fun _ _ _ h => h) ?_ ?_
    rotate_left 1
    · (refine Or.inl ⟨by rfl, ?_⟩; intro w' hw'; (try go_simp); (try rfl); done)
    try simp only [Act.put, List.setIfInBounds_toArray, List.set_cons_zero, List.set_cons_succ]
    refine wpAnyS_take (i := 2) (v := ?_) hS (some 45) rfl rfl (by kernel_rfl) (by kernel_rfl) (by kernel_rfl) (fun _ _ _ h => h) ?_ ?_
    rotate_left 1
    · (refine Or.inl ⟨by rfl, ?_⟩; intro w' hw'; (try go_simp); (try rfl); done)
    try simp only [Act.put, List.setIfInBounds_toArray, List.set_cons_zero, List.set_cons_succ]
    refine wpAnyS_take (i := 3) (v := ?_) hS (some 46) rfl rfl (by kernel_rfl) (by kernel_rfl) (by kernel_rfl) (fun _ _ _ h => h) ?_ ?_
    rotate_left 1
    · (refine Or.inl ⟨by rfl, ?_⟩; intro w' hw'; (try go_simp); (try rfl); done)
    try simp only [Act.put, List.setIfInBounds_toArray, List.set_cons_zero, List.set_cons_succ]
    refine wpAnyS_take (i := 4) (v := ?_) hS (some 47) rfl rfl (by kernel_rfl) (by kernel_rfl) (by kernel_rfl) (fun _ _ _ h => h) ?_ ?_
    rotate_left 1
    · (refine Or.inl ⟨by rfl, ?_⟩; intro w' hw'; (try go_simp); (try rfl); done)
    try simp only [Act.put, List.setIfInBounds_toArray, List.set_cons_zero, List.set_cons_succ]
    refine wpAnyS_take (i := 5) (v := ?_) hS (some 48) rfl rfl (by kernel_rfl) (by kernel_rfl) (by kernel_rfl) (fun _ _ _ h => h) ?_ ?_
    rotate_left 1
    · (refine Or.inl ⟨by rfl, ?_⟩; intro w' hw'; (try go_simp); (try rfl); done)
    try simp only [Act.put, List.setIfInBounds_toArray, List.set_cons_zero, List.set_cons_succ]
    refine wpAnyS_take (i := 6) (v := ?_) hS (some 49) rfl rfl (by kernel_rfl) (by kernel_rfl) (by kernel_rfl) (fun _ _ _ h => h) ?_ ?_
    rotate_left 1
    · (refine Or.inl ⟨by rfl, ?_⟩; intro w' hw'; (try go_simp); (try rfl); done)
    try simp only [Act.put, List.setIfInBounds_toArray, List.set_cons_zero, List.set_cons_succ]
    refine wpAnyS_take (i := 7) (v := ?_) hS (some 50) rfl rfl (by kernel_rfl) (by kernel_rfl) (by kernel_rfl) (fun _ _ _ h => h) ?_ ?_
    rotate_left 1
    · (refine Or.inl ⟨by rfl, ?_⟩; intro w' hw'; (try go_simp); (try rfl); done)
    try simp only [Act.put, List.setIfInBounds_toArray, List.set_cons_zero, List.set_cons_succ]
    refine wpAnyS_take (i := 8) (v := ?_) hS (some 51) rfl rfl (by kernel_rfl) (by kernel_rfl) (by kernel_rfl) (fun _ _ _ h => h) ?_ ?_
    rotate_left 1
    · (refine Or.inl ⟨by rfl, ?_⟩; intro w' hw'; (try go_simp); (try rfl); done)
    try simp only [Act.put, List.setIfInBounds_toArray, List.set_cons_zero, List.set_cons_succ]
    refine wpAnyS_take (i := 9) (v := ?_) hS (some 52) rfl rfl (by kernel_rfl) (by kernel_rfl) (by kernel_rfl) (fun _ _ _ h => h) ?_ ?_
    rotate_left 1
    · (refine Or.inl ⟨by rfl, ?_⟩; intro w' hw'; (try go_simp); (try rfl); done)
    try simp only [Act.put, List.setIfInBounds_toArray, List.set_cons_zero, List.set_cons_succ]
    refine wpAnyS_take (i := 10) (v := ?_) hS (some 53) rfl rfl (by kernel_rfl) (by kernel_rfl) (by kernel_rfl) (fun _ _ _ h => h) ?_ ?_
    rotate_left 1
    · (refine Or.inl ⟨by rfl, ?_⟩; intro w' hw'; (try go_simp); (try rfl); done)
    try simp only [Act.put, List.setIfInBounds_toArray, List.set_cons_zero, List.set_cons_succ]
    refine wpAnyS_fork2 (i := 11) (j := 12) (by kernel_rfl) rfl (by rfl) rfl (by rfl) (fun K hK => ?_) (fun K hK => ?_)
    · go_simp
      have hu := hup _ hS
      (with_reducible refine hu.mono ?_); rintro e w5 ⟨va, vb', rfl, hv5, b5⟩
      clear hu
      have oa := sl_one' hv5.a.sl
      have ob := sl_one' hv5.b.sl
      replace cur := cur.call b5 hv5
      have hb := cur.below
      clear b5 hv5
      refine hK.out _ _ hb ?_
      replace hS := hb
      clear hK K hb
      try simp only [Act.put, List.setIfInBounds_toArray, List.set_cons_zero, List.set_cons_succ]
      refine wpAnyS_one (i := 12) rfl (by kernel_rfl) (by rfl) (fun K hK => ?_)
      refine wp_alloc_at (some 13) 72 rfl rfl _ (zeroY _) ?_
      replace cur := cur.alloc
      generalize World.alloc _ _ = Wn at *
      have hb := cur.below
      refine hK.out _ _ hb ?_
      replace hS := hb
      clear hK K hb
      try simp only [Act.put, List.setIfInBounds_toArray, List.set_cons_zero, List.set_cons_succ]
      refine wpAnyS_one (i := 13) rfl (by kernel_rfl) (by rfl) (fun K hK => ?_)
      refine wp_storeY (cur.ax _ rfl).2 zer_length zer_length hol hnl oa ob _ _ rfl rfl rfl ?_
      have hb := cur.cut.below
      refine hK.out _ _ hb ?_
      replace hS := hb
      clear hK K hb
      try simp only [Act.put, List.setIfInBounds_toArray, List.set_cons_zero, List.set_cons_succ]
      refine wpAnyS_done (by kernel_rfl) ?_ _
      go_wp2_with fail
      go_meet
      exact ⟨_, _, _, rfl, cur.cut⟩
    · refine wp_alloc_at (some 13) 72 rfl rfl _ (zeroY _) ?_
      replace cur := cur.alloc
      generalize World.alloc _ _ = Wn at *
      have hb := cur.below
      refine hK.out _ _ hb ?_
      replace hS := hb
      clear hK K hb
      try simp only [Act.put, List.setIfInBounds_toArray, List.set_cons_zero, List.set_cons_succ]
      refine wpAnyS_one (i := 11) rfl (by kernel_rfl) (by rfl) (fun K hK => ?_)
      go_simp
      have hu := hup _ hS
      (with_reducible refine hu.mono ?_); rintro e w5 ⟨va, vb', rfl, hv5, b5⟩
      clear hu
      have oa := sl_one' hv5.a.sl
      have ob := sl_one' hv5.b.sl
      replace cur := cur.call b5 hv5
      have hb := cur.below
      clear b5 hv5
      refine hK.out _ _ hb ?_
      replace hS := hb
      clear hK K hb
      try simp only [Act.put, List.setIfInBounds_toArray, List.set_cons_zero, List.set_cons_succ]
      refine wpAnyS_one (i := 13) rfl (by kernel_rfl) (by rfl) (fun K hK => ?_)
      refine wp_storeY (cur.ax _ rfl).2 zer_length zer_length hol hnl oa ob _ _ rfl rfl rfl ?_
      have hb := cur.cut.below
      refine hK.out _ _ hb ?_
      replace hS := hb
      clear hK K hb
      try simp only [Act.put, List.setIfInBounds_toArray, List.set_cons_zero, List.set_cons_succ]
      refine wpAnyS_done (by kernel_rfl) ?_ _
      go_wp2_with fail
      go_meet
      exact ⟨_, _, _, rfl, cur.cut⟩
  case rest =>
    obtain ⟨D, va, vb', rfl, hc⟩ := hcut
    clear cur0 hup
    have hc1 := hc.ext (ext_drew wc)
    have hS : Below w.heap.size w wc.drew ∧ RowT 38 wc.drew (w.heap.size + 1) lst ∧ RowY wc.drew D wl.old wl.new va vb' wl.p.isSome wl.fits := ⟨hc1.below, hc1.rL, hc1.rD⟩
    have rR := hc1.rR
    have wv := hc1.wv
    have nD : Hid (w.heap.size + 1 < D) := hc1.lD
    clear hc hc1
    go_wp2_with fail
    refine wp_region_S (fun w' => Below w.heap.size w w' ∧ RowT 38 w' (w.heap.size + 1) lst ∧ RowY w' D wl.old wl.new va vb' wl.p.isSome wl.fits) (by kernel_rfl) ?_
    refine wpAnyS_take (i := 0) (v := ?_) hS (some 55) rfl rfl (by kernel_rfl) (by kernel_rfl) (by kernel_rfl) (fun _ _ _ h => h) ?_ ?_
    rotate_left 1
    · (refine Or.inl ⟨by rfl, ?_⟩; intro w' hw'; (try go_simp); (try rfl); done)
    try simp only [Act.put, List.setIfInBounds_toArray, List.set_cons_zero, List.set_cons_succ]
    refine wpAnyS_take (i := 1) (v := ?_) hS (some 56) rfl rfl (by kernel_rfl) (by kernel_rfl) (by kernel_rfl) (fun _ _ _ h => h) ?_ ?_
    rotate_left 1
    · (refine Or.inl ⟨by rfl, ?_⟩; intro w' hw'; (refine RowY.ex hw'.2.2 hol hnl (.tmp 13) ?_ ?_ <;> rfl))
    try simp only [Act.put, List.setIfInBounds_toArray, List.set_cons_zero, List.set_cons_succ]
    refine wpAnyS_take (i := 2) (v := ?_) hS (some 57) rfl rfl (by kernel_rfl) (by kernel_rfl) (by kernel_rfl) (fun _ _ _ h => h) ?_ ?_
    rotate_left 1
    · (refine Or.inl ⟨by rfl, ?_⟩; intro w' hw'; (try go_simp); (try rfl); done)
    try simp only [Act.put, List.setIfInBounds_toArray, List.set_cons_zero, List.set_cons_succ]
    refine wpAnyS_take (i := 3) (v := ?_) hS (some 58) rfl rfl (by kernel_rfl) (by kernel_rfl) (by kernel_rfl) (fun _ _ _ h => h) ?_ ?_
    rotate_left 1
    · (refine Or.inl ⟨by rfl, ?_⟩; intro w' hw'; (refine arr_dg.exAt' (hw'.2.2.new hol hnl) hnl (.tmp 57) ?_ ?_ <;> rfl))
    try simp only [Act.put, List.setIfInBounds_toArray, List.set_cons_zero, List.set_cons_succ]
    refine wpAnyS_take (i := 4) (v := ?_) hS (some 59) rfl rfl (by kernel_rfl) (by kernel_rfl) (by kernel_rfl) (fun _ _ _ h => h) ?_ ?_
    rotate_left 1
    · (refine Or.inl ⟨by rfl, ?_⟩; intro w' hw'; (refine arr_dg.ex hw'.2.1 hd1 (.tmp 12) ?_ ?_ <;> rfl))
    try simp only [Act.put, List.setIfInBounds_toArray, List.set_cons_zero, List.set_cons_succ]
    refine wpAnyS_take (i := 6) (v := ?_) hS (some 61) rfl rfl (by kernel_rfl) (by kernel_rfl) (by kernel_rfl) (fun _ _ _ h => h) ?_ ?_
    rotate_left 1
    · (refine Or.inl ⟨by rfl, ?_⟩; intro w' hw'; (try go_simp); (try rfl); done)
    try simp only [Act.put, List.setIfInBounds_toArray, List.set_cons_zero, List.set_cons_succ]
    refine wpAnyS_one (i := 5) rfl (by kernel_rfl) (by rfl) (fun K hK => ?_)
    go_simp
    (with_reducible refine (hnd _).mono ?_); rintro e w6 ⟨v6, rfl, s6, b6⟩
    have x6 : Ext wc.drew w6 := b6
    have hb : Below w.heap.size w w6 ∧ RowT 38 w6 (w.heap.size + 1) lst ∧ RowY w6 D wl.old wl.new va vb' wl.p.isSome wl.fits := ⟨Below.trans hS.1 (x6.mono hS.1.size), hS.2.1.below x6, hS.2.2.ext x6⟩
    refine hK.out _ _ hb ?_
    replace hS := hb
    clear hK K hb
    try simp only [Act.put, List.setIfInBounds_toArray, List.set_cons_zero, List.set_cons_succ]
    refine wpAnyS_one (i := 7) rfl (by kernel_rfl) (by rfl) (fun K hK => ?_)
    go_simp
    have hst := step_any k hk wl va vb' v6 (.slice A l.length c) t l w6 (wv.below x6) s6 (by rw [htl]; decide) (hl.below hS.1) hll hz
    unfold wayOf at hst
    (with_reducible refine hst.mono ?_); rintro e w7 ⟨va2, vb2, rfl, hv7, b7⟩
    have x7 := Ext.trans x6 b7
    have rR7 := rR.ext x7
    have hb : Below w.heap.size w w7 ∧ RowT 38 w7 (w.heap.size + 1) lst ∧ RowY w7 D wl.old wl.new va vb' wl.p.isSome wl.fits := ⟨Below.trans hS.1 (b7.mono hS.1.size), hS.2.1.below b7, hS.2.2.ext b7⟩
    clear hst
    generalize hwl : stepL k wl t l = wl2 at *
    replace hwl : Hid _ := hwl
    refine hK.out _ _ hb ?_
    replace hS := hb
    clear hK K hb
    try simp only [Act.put, List.setIfInBounds_toArray, List.set_cons_zero, List.set_cons_succ]
    refine wpAnyS_one (i := 8) rfl (by kernel_rfl) (by rfl) (fun K hK => ?_)
    refine wp_storeY rR7 zer_length zer_length hv7.lo hv7.ln (sl_one' hv7.a.sl) (sl_one' hv7.b.sl) _ _ rfl rfl rfl ?_
    have hret := (rR7.setRow wl2.old wl2.new va2 vb2 wl2.p.isSome wl2.fits).load hv7.lo hv7.ln
    have hv8 := hv7.row rR7 (by decide) (wyC wl2.old wl2.new va2 vb2 wl2.p.isSome wl2.fits).toArray
    have bz := below_setRow hS.1 (Nat.le_refl w.heap.size) (wyC wl2.old wl2.new va2 vb2 wl2.p.isSome wl2.fits).toArray
    have hb := And.intro bz (And.intro (hS.2.1.other (D := w.heap.size) (by omega) (wyC wl2.old wl2.new va2 vb2 wl2.p.isSome wl2.fits).toArray) (hS.2.2.row (E := w.heap.size) (by have := nD.out; omega) (wyC wl2.old wl2.new va2 vb2 wl2.p.isSome wl2.fits).toArray))
    refine hK.out _ _ hb ?_
    replace hS := hb
    clear hK K hb
    try simp only [Act.put, List.setIfInBounds_toArray, List.set_cons_zero, List.set_cons_succ]
    refine wpAnyS_done (by kernel_rfl) ?_ _
    go_wp2_with fail
    exact ret_cell (v := wayOf wl2 va2 vb2) Try.results41 rfl hret rfl (by rw [hwl.out]; exact ⟨_, _, rfl, hv8, bz⟩)
set_option maxHeartbeats 16000000 in
theorem rup_right (k : Nat) (hk : k ≤ 256) (A Ap : Option Addr) (c cp : Nat) (l : List (List UInt8)) (i j : Nat) (vb : Value) (ps : List (List UInt8)) (wl : WayL) (w : World)
    (hl : SlX w (.slice A l.length c) l) (h2 : 2 ≤ l.length) (hll : l.length ≤ 1048576) (hz : ∀ z ∈ l, z.length ≤ 1048576) (hp : SlD w (.slice Ap ps.length cp) ps) (h0 : 0 < ps.length) (hj : kOf l.length = j) (hij : j ≤ i) (hil : i < l.length)
    (hup : ∀ w', Ext w w' → Calls Try.prog 41 #[.int .i64 k, .slice (slA A j c 1) (l.length - j) (c - j), .int .i64 ((i : Int) - j), vb, .slice Ap (ps.length - 1) cp] w' fun e w'' => ∃ va vb, e = .returned (wayOf wl va vb) ∧ WayV w'' va vb wl ∧ Below w'.heap.size w' w'')
    (hnl : wl.new.length = 32) (hol : wl.old.length = 32) :
    Calls Try.prog 41 #[.int .i64 k, .slice A l.length c, .int .i64 i, vb, .slice Ap ps.length cp] w fun e w' => ∃ va vb, e = .returned (wayOf (stepL k wl (ndL (lastL ps) wl.new) l) va vb) ∧ WayV w' va vb (stepL k wl (ndL (lastL ps) wl.new) l) ∧ Below w.heap.size w w' := by
  have hR := rowY_new w
  have b0 := ext_alloc w (.cells (wyC zer zer nilV nilV false false).toArray 72 (0, 0))
  obtain ⟨ad, rfl, hrd⟩ := hp.get (i := ps.length - 1) (by omega)
  have hd1 := hp.len32 (i := ps.length - 1) (by omega)
  have hlast : lastL ps = ps.getD (ps.length - 1) [] := rfl
  rw [← hlast] at hrd hd1
  clear hlast
  have hkl := kOf_lt (n := l.length) h2 (by omega)
  rw [hj] at hkl
  have hcl : l.length ≤ c := by obtain ⟨_, _, e, h, _⟩ := hl.len; cases e; exact h
  have hcp : ps.length ≤ cp := by obtain ⟨_, _, e, h, _⟩ := hp.1; cases e; exact h
  have hcpm : cp ≤ 9223372036854775807 := by obtain ⟨_, _, e, _, h, _⟩ := hp.1; cases e; exact h
  have hh := fun w' => rhalf_any l.length w' h2 hll
  rw [hj] at hh
  have hnd := fun w' => rnode_own (lastL ps) wl.new hd1 hnl w'
  have htl : (ndL (lastL ps) wl.new).length = 65 := ndL_length _ _ hd1 hnl
  generalize lastL ps = lst at *
  generalize ndL lst wl.new = t at *
  have q1 : ((l.length : Int) == 1) = false := by rw [beq_eq_false_iff_ne]; omega
  have q2 : ((ps.length : Int) == 0) = false := by rw [beq_eq_false_iff_ne]; omega
  have hps : (ps.length : Int) ≤ 9223372036854775807 := by omega
  have j0 : (0 : Int) ≤ (ps.length : Int) - 1 := by omega
  have j1 : (ps.length : Int) - 1 < ps.length := by omega
  have j4 : (1 : Int) ≤ ps.length := by omega
  have j2 : ((ps.length : Int) - 1).toNat = ps.length - 1 := by omega
  have j3 : (ps.length : Int) - 1 ≤ cp := by omega
  have j5 : IntKind.i64.wrap ((ps.length : Int) - 1) = (ps.length : Int) - 1 := by rw [IntKind.wrap_i64]; omega
  have g1 : (j : Int) ≤ c := by omega
  have g2 : ¬ (i : Int) < j := by omega
  have g3 : (j : Int) ≤ l.length := by omega
  have wij : IntKind.i64.wrap ((i : Int) - j) = (i : Int) - j := by rw [IntKind.wrap_i64]; omega
  have hrd0 := hrd.below' b0
  obtain ⟨h3, h4, b2, z2⟩ := alloc2 (w := w) (o1 := .cells (wyC zer zer nilV nilV false false).toArray 72 (0, 0)) (o2 := .cells (bs zer).toArray 38 (0, 0)) rfl
  have hR0 : RowY _ w.heap.size zer zer nilV nilV false false := h3
  have hL0 : RowT 38 _ (w.heap.size + 1) zer := h4
  have cur0 : CurR w w.heap.size (w.heap.size + 1) lst none none (((w.alloc (.cells (wyC zer zer nilV nilV false false).toArray 72 (0, 0))).alloc (.cells (bs zer).toArray 38 (0, 0))).setRow (w.heap.size + 1) (bs lst).toArray) :=
    ⟨below_setRow b2 (Nat.le_succ w.heap.size) _, hR0.row (by omega) _, hL0.setRow lst, Nat.lt_succ_self _, Nat.le_refl _, (fun _ _ _ e => by cases e), (fun B e => by cases e)⟩
  replace hj : Hid _ := hj
  clear hkl hcl hcp hcpm hR b0 hrd h3 h4 b2 z2 hR0
  go_enter Try.func41, Try.ntmps41
  go_wp2_with fail
  refine (hh _).mono ?_; rintro e w' ⟨rfl, rfl⟩
  go_upto_region 10 with (first
    | ((with_reducible refine at_load ?_); refine arr_dg.loadAtL hrd0 (by rfl) hd1 _ rfl rfl ?_)
    | ((with_reducible refine at_store ?_); refine arr_dg.storeL hL0 zer_length rfl hd1 _ _ rfl rfl rfl ?_))
  generalize hW : World.setRow (World.alloc (World.alloc w _) _) _ _ = W
  have hW2 : ((w.alloc (.cells (wyC zer zer nilV nilV false false).toArray 72 (0, 0))).alloc (.cells (bs zer).toArray 38 (0, 0))).setRow (w.heap.size + 1) (bs lst).toArray = W := by rw [← hW]; rfl
  rw [hW2] at cur0
  clear hW hW2 hh hrd0 hL0
  go_cut [14] (fun s13 wx => ∃ D va vb, s13 = .pointer (some ⟨D, 0, none⟩) ∧ CutR w w.heap.size (w.heap.size + 1) D lst wl va vb wx)
  case first =>
    have cur := CurR.ext cur0 (ext_drew _)
    have hS := cur.below
    clear cur0 hnd hd1
    refine wp_region_S (fun w' => Below w.heap.size w w') (by kernel_rfl) ?_
    refine wpAnyS_take (i := 0) (v := ?_) hS (some 63) rfl rfl (by kernel_rfl) (by kernel_rfl) (by kernel_rfl) (fun _ _ _ h => h) ?_ ?_
    rotate_left 1
    · (refine Or.inl ⟨by rfl, ?_⟩; intro w' hw'; (try go_simp); (try rfl); done)
    try simp only [Act.put, List.setIfInBounds_toArray, List.set_cons_zero, List.set_cons_succ]
    refine wpAnyS_take (i := 1) (v := ?_) hS (some 64) rfl rfl (by kernel_rfl) (by kernel_rfl) (by kernel_rfl) (fun _ _ _ h => h) ?_ ?_
    rotate_left 1
    · (refine Or.inl ⟨by rfl, ?_⟩; intro w' hw'; (try go_simp); (try rfl); done)
    try simp only [Act.put, List.setIfInBounds_toArray, List.set_cons_zero, List.set_cons_succ]
    refine wpAnyS_take (i := 2) (v := ?_) hS (some 65) rfl rfl (by kernel_rfl) (by kernel_rfl) (by kernel_rfl) (fun _ _ _ h => h) ?_ ?_
    rotate_left 1
    · (refine Or.inl ⟨by rfl, ?_⟩; intro w' hw'; (try go_simp); (try rfl); done)
    try simp only [Act.put, List.setIfInBounds_toArray, List.set_cons_zero, List.set_cons_succ]
    refine wpAnyS_take (i := 3) (v := ?_) hS (some 66) rfl rfl (by kernel_rfl) (by kernel_rfl) (by kernel_rfl) (fun _ _ _ h => h) ?_ ?_
    rotate_left 1
    · (refine Or.inl ⟨by rfl, ?_⟩; intro w' hw'; (try go_simp); (try rfl); done)
    try simp only [Act.put, List.setIfInBounds_toArray, List.set_cons_zero, List.set_cons_succ]
    refine wpAnyS_take (i := 4) (v := ?_) hS (some 67) rfl rfl (by kernel_rfl) (by kernel_rfl) (by kernel_rfl) (fun _ _ _ h => h) ?_ ?_
    rotate_left 1
    · (refine Or.inl ⟨by rfl, ?_⟩; intro w' hw'; (try go_simp); (try rfl); done)
    try simp only [Act.put, List.setIfInBounds_toArray, List.set_cons_zero, List.set_cons_succ]
    refine wpAnyS_take (i := 5) (v := ?_) hS (some 68) rfl rfl (by kernel_rfl) (by kernel_rfl) (by kernel_rfl) (fun _ _ _ h => h) ?_ ?_
    rotate_left 1
    · (refine Or.inl ⟨by rfl, ?_⟩; intro w' hw'; (try go_simp); (try rfl); done)
    try simp only [Act.put, List.setIfInBounds_toArray, List.set_cons_zero, List.set_cons_succ]
    refine wpAnyS_take (i := 6) (v := ?_) hS (some 69) rfl rfl (by kernel_rfl) (by kernel_rfl) (by kernel_rfl) (fun _ _ _ h => h) ?_ ?_
    rotate_left 1
    · (refine Or.inl ⟨by rfl, ?_⟩; intro w' hw'; (try go_simp); (try rfl); done)
    try simp only [Act.put, List.setIfInBounds_toArray, List.set_cons_zero, List.set_cons_succ]
    refine wpAnyS_take (i := 7) (v := ?_) hS (some 70) rfl rfl (by kernel_rfl) (by kernel_rfl) (by kernel_rfl) (fun _ _ _ h => h) ?_ ?_
    rotate_left 1
    · (refine Or.inl ⟨by rfl, ?_⟩; intro w' hw'; (try go_simp); (try rfl); done)
    try simp only [Act.put, List.setIfInBounds_toArray, List.set_cons_zero, List.set_cons_succ]
    refine wpAnyS_take (i := 8) (v := ?_) hS (some 71) rfl rfl (by kernel_rfl) (by kernel_rfl) (by kernel_rfl) (fun _ _ _ h => h) ?_ ?_
    rotate_left 1
    · (refine Or.inl ⟨by rfl, ?_⟩; intro w' hw'; (try go_simp); (try rfl); done)
    try simp only [Act.put, List.setIfInBounds_toArray, List.set_cons_zero, List.set_cons_succ]
    refine wpAnyS_take (i := 9) (v := ?_) hS (some 72) rfl rfl (by kernel_rfl) (by kernel_rfl) (by kernel_rfl) (fun _ _ _ h => h) ?_ ?_
    rotate_left 1
    · (refine Or.inl ⟨by rfl, ?_⟩; intro w' hw'; (try go_simp); (try rfl); done)
    try simp only [Act.put, List.setIfInBounds_toArray, List.set_cons_zero, List.set_cons_succ]
    refine wpAnyS_take (i := 10) (v := ?_) hS (some 73) rfl rfl (by kernel_rfl) (by kernel_rfl) (by kernel_rfl) (fun _ _ _ h => h) ?_ ?_
    rotate_left 1
    · (refine Or.inl ⟨by rfl, ?_⟩; intro w' hw'; (try go_simp); (try rfl); done)
    try simp only [Act.put, List.setIfInBounds_toArray, List.set_cons_zero, List.set_cons_succ]
    refine wpAnyS_take (i := 11) (v := ?_) hS (some 74) rfl rfl (by kernel_rfl) (by kernel_rfl) (by kernel_rfl) (fun _ _ _ h => h) ?_ ?_
    rotate_left 1
    · (refine Or.inl ⟨by rfl, ?_⟩; intro w' hw'; (try go_simp); (try rfl); done)
    try simp only [Act.put, List.setIfInBounds_toArray, List.set_cons_zero, List.set_cons_succ]
    refine wpAnyS_take (i := 12) (v := ?_) hS (some 75) rfl rfl (by kernel_rfl) (by kernel_rfl) (by kernel_rfl) (fun _ _ _ h => h) ?_ ?_
    rotate_left 1
    · (refine Or.inl ⟨by rfl, ?_⟩; intro w' hw'; (try go_simp); (try rfl); done)
    try simp only [Act.put, List.setIfInBounds_toArray, List.set_cons_zero, List.set_cons_succ]
    refine wpAnyS_fork2 (i := 13) (j := 14) (by kernel_rfl) rfl (by rfl) rfl (by rfl) (fun K hK => ?_) (fun K hK => ?_)
    · go_simp
      have hu := hup _ hS
      (with_reducible refine hu.mono ?_); rintro e w5 ⟨va, vb', rfl, hv5, b5⟩
      clear hu
      have oa := sl_one' hv5.a.sl
      have ob := sl_one' hv5.b.sl
      replace cur := cur.call b5 hv5
      have hb := cur.below
      clear b5 hv5
      refine hK.out _ _ hb ?_
      replace hS := hb
      clear hK K hb
      try simp only [Act.put, List.setIfInBounds_toArray, List.set_cons_zero, List.set_cons_succ]
      refine wpAnyS_one (i := 14) rfl (by kernel_rfl) (by rfl) (fun K hK => ?_)
      refine wp_alloc_at (some 14) 72 rfl rfl _ (zeroY _) ?_
      replace cur := cur.alloc
      generalize World.alloc _ _ = Wn at *
      have hb := cur.below
      refine hK.out _ _ hb ?_
      replace hS := hb
      clear hK K hb
      try simp only [Act.put, List.setIfInBounds_toArray, List.set_cons_zero, List.set_cons_succ]
      refine wpAnyS_one (i := 15) rfl (by kernel_rfl) (by rfl) (fun K hK => ?_)
      refine wp_storeY (cur.ax _ rfl).2 zer_length zer_length hol hnl oa ob _ _ rfl rfl rfl ?_
      have hb := cur.cut.below
      refine hK.out _ _ hb ?_
      replace hS := hb
      clear hK K hb
      try simp only [Act.put, List.setIfInBounds_toArray, List.set_cons_zero, List.set_cons_succ]
      refine wpAnyS_done (by kernel_rfl) ?_ _
      go_wp2_with fail
      go_meet
      exact ⟨_, _, _, rfl, cur.cut⟩
    · refine wp_alloc_at (some 14) 72 rfl rfl _ (zeroY _) ?_
      replace cur := cur.alloc
      generalize World.alloc _ _ = Wn at *
      have hb := cur.below
      refine hK.out _ _ hb ?_
      replace hS := hb
      clear hK K hb
      try simp only [Act.put, List.setIfInBounds_toArray, List.set_cons_zero, List.set_cons_succ]
      refine wpAnyS_one (i := 13) rfl (by kernel_rfl) (by rfl) (fun K hK => ?_)
      go_simp
      have hu := hup _ hS
      (with_reducible refine hu.mono ?_); rintro e w5 ⟨va, vb', rfl, hv5, b5⟩
      clear hu
      have oa := sl_one' hv5.a.sl
      have ob := sl_one' hv5.b.sl
      replace cur := cur.call b5 hv5
      have hb := cur.below
      clear b5 hv5
      refine hK.out _ _ hb ?_
      replace hS := hb
      clear hK K hb
      try simp only [Act.put, List.setIfInBounds_toArray, List.set_cons_zero, List.set_cons_succ]
      refine wpAnyS_one (i := 15) rfl (by kernel_rfl) (by rfl) (fun K hK => ?_)
      refine wp_storeY (cur.ax _ rfl).2 zer_length zer_length hol hnl oa ob _ _ rfl rfl rfl ?_
      have hb := cur.cut.below
      refine hK.out _ _ hb ?_
      replace hS := hb
      clear hK K hb
      try simp only [Act.put, List.setIfInBounds_toArray, List.set_cons_zero, List.set_cons_succ]
      refine wpAnyS_done (by kernel_rfl) ?_ _
      go_wp2_with fail
      go_meet
      exact ⟨_, _, _, rfl, cur.cut⟩
  case rest =>
    obtain ⟨D, va, vb', rfl, hc⟩ := hcut
    clear cur0 hup
    have hc1 := hc.ext (ext_drew wc)
    have hS : Below w.heap.size w wc.drew ∧ RowT 38 wc.drew (w.heap.size + 1) lst ∧ RowY wc.drew D wl.old wl.new va vb' wl.p.isSome wl.fits := ⟨hc1.below, hc1.rL, hc1.rD⟩
    have rR := hc1.rR
    have wv := hc1.wv
    have nD : Hid (w.heap.size + 1 < D) := hc1.lD
    clear hc hc1
    go_wp2_with fail
    refine wp_region_S (fun w' => Below w.heap.size w w' ∧ RowT 38 w' (w.heap.size + 1) lst ∧ RowY w' D wl.old wl.new va vb' wl.p.isSome wl.fits) (by kernel_rfl) ?_
    refine wpAnyS_take (i := 0) (v := ?_) hS (some 77) rfl rfl (by kernel_rfl) (by kernel_rfl) (by kernel_rfl) (fun _ _ _ h => h) ?_ ?_
    rotate_left 1
    · (refine Or.inl ⟨by rfl, ?_⟩; intro w' hw'; (try go_simp); (try rfl); done)
    try simp only [Act.put, List.setIfInBounds_toArray, List.set_cons_zero, List.set_cons_succ]
    refine wpAnyS_take (i := 1) (v := ?_) hS (some 78) rfl rfl (by kernel_rfl) (by kernel_rfl) (by kernel_rfl) (fun _ _ _ h => h) ?_ ?_
    rotate_left 1
    · (refine Or.inl ⟨by rfl, ?_⟩; intro w' hw'; (refine RowY.ex hw'.2.2 hol hnl (.tmp 14) ?_ ?_ <;> rfl))
    try simp only [Act.put, List.setIfInBounds_toArray, List.set_cons_zero, List.set_cons_succ]
    refine wpAnyS_take (i := 2) (v := ?_) hS (some 79) rfl rfl (by kernel_rfl) (by kernel_rfl) (by kernel_rfl) (fun _ _ _ h => h) ?_ ?_
    rotate_left 1
    · (refine Or.inl ⟨by rfl, ?_⟩; intro w' hw'; (refine arr_dg.ex hw'.2.1 hd1 (.tmp 12) ?_ ?_ <;> rfl))
    try simp only [Act.put, List.setIfInBounds_toArray, List.set_cons_zero, List.set_cons_succ]
    refine wpAnyS_take (i := 3) (v := ?_) hS (some 80) rfl rfl (by kernel_rfl) (by kernel_rfl) (by kernel_rfl) (fun _ _ _ h => h) ?_ ?_
    rotate_left 1
    · (refine Or.inl ⟨by rfl, ?_⟩; intro w' hw'; (try go_simp); (try rfl); done)
    try simp only [Act.put, List.setIfInBounds_toArray, List.set_cons_zero, List.set_cons_succ]
    refine wpAnyS_take (i := 4) (v := ?_) hS (some 81) rfl rfl (by kernel_rfl) (by kernel_rfl) (by kernel_rfl) (fun _ _ _ h => h) ?_ ?_
    rotate_left 1
    · (refine Or.inl ⟨by rfl, ?_⟩; intro w' hw'; (refine arr_dg.exAt' (hw'.2.2.new hol hnl) hnl (.tmp 80) ?_ ?_ <;> rfl))
    try simp only [Act.put, List.setIfInBounds_toArray, List.set_cons_zero, List.set_cons_succ]
    refine wpAnyS_take (i := 6) (v := ?_) hS (some 83) rfl rfl (by kernel_rfl) (by kernel_rfl) (by kernel_rfl) (fun _ _ _ h => h) ?_ ?_
    rotate_left 1
    · (refine Or.inl ⟨by rfl, ?_⟩; intro w' hw'; (try go_simp); (try rfl); done)
    try simp only [Act.put, List.setIfInBounds_toArray, List.set_cons_zero, List.set_cons_succ]
    refine wpAnyS_one (i := 5) rfl (by kernel_rfl) (by rfl) (fun K hK => ?_)
    go_simp
    (with_reducible refine (hnd _).mono ?_); rintro e w6 ⟨v6, rfl, s6, b6⟩
    have x6 : Ext wc.drew w6 := b6
    have hb : Below w.heap.size w w6 ∧ RowT 38 w6 (w.heap.size + 1) lst ∧ RowY w6 D wl.old wl.new va vb' wl.p.isSome wl.fits := ⟨Below.trans hS.1 (x6.mono hS.1.size), hS.2.1.below x6, hS.2.2.ext x6⟩
    refine hK.out _ _ hb ?_
    replace hS := hb
    clear hK K hb
    try simp only [Act.put, List.setIfInBounds_toArray, List.set_cons_zero, List.set_cons_succ]
    refine wpAnyS_one (i := 7) rfl (by kernel_rfl) (by rfl) (fun K hK => ?_)
    go_simp
    have hst := step_any k hk wl va vb' v6 (.slice A l.length c) t l w6 (wv.below x6) s6 (by rw [htl]; decide) (hl.below hS.1) hll hz
    unfold wayOf at hst
    (with_reducible refine hst.mono ?_); rintro e w7 ⟨va2, vb2, rfl, hv7, b7⟩
    have x7 := Ext.trans x6 b7
    have rR7 := rR.ext x7
    have hb : Below w.heap.size w w7 ∧ RowT 38 w7 (w.heap.size + 1) lst ∧ RowY w7 D wl.old wl.new va vb' wl.p.isSome wl.fits := ⟨Below.trans hS.1 (b7.mono hS.1.size), hS.2.1.below b7, hS.2.2.ext b7⟩
    clear hst
    generalize hwl : stepL k wl t l = wl2 at *
    replace hwl : Hid _ := hwl
    refine hK.out _ _ hb ?_
    replace hS := hb
    clear hK K hb
    try simp only [Act.put, List.setIfInBounds_toArray, List.set_cons_zero, List.set_cons_succ]
    refine wpAnyS_one (i := 8) rfl (by kernel_rfl) (by rfl) (fun K hK => ?_)
    refine wp_storeY rR7 zer_length zer_length hv7.lo hv7.ln (sl_one' hv7.a.sl) (sl_one' hv7.b.sl) _ _ rfl rfl rfl ?_
    have hret := (rR7.setRow wl2.old wl2.new va2 vb2 wl2.p.isSome wl2.fits).load hv7.lo hv7.ln
    have hv8 := hv7.row rR7 (by decide) (wyC wl2.old wl2.new va2 vb2 wl2.p.isSome wl2.fits).toArray
    have bz := below_setRow hS.1 (Nat.le_refl w.heap.size) (wyC wl2.old wl2.new va2 vb2 wl2.p.isSome wl2.fits).toArray
    have hb := And.intro bz (And.intro (hS.2.1.other (D := w.heap.size) (by omega) (wyC wl2.old wl2.new va2 vb2 wl2.p.isSome wl2.fits).toArray) (hS.2.2.row (E := w.heap.size) (by have := nD.out; omega) (wyC wl2.old wl2.new va2 vb2 wl2.p.isSome wl2.fits).toArray))
    refine hK.out _ _ hb ?_
    replace hS := hb
    clear hK K hb
    try simp only [Act.put, List.setIfInBounds_toArray, List.set_cons_zero, List.set_cons_succ]
    refine wpAnyS_done (by kernel_rfl) ?_ _
    go_wp2_with fail
    exact ret_cell (v := wayOf wl2 va2 vb2) Try.results41 rfl hret rfl (by rw [hwl.out]; exact ⟨_, _, rfl, hv8, bz⟩)
/-- What up of the reference does. -/
theorem rup_any (k : Nat) (hk : k ≤ 256) (b : List UInt8) (bl : b.length ≤ 1048576) :
    ∀ (n : Nat) (vl : Value) (l : List (List UInt8)) (i : Nat) (vb vp : Value) (ps : List (List UInt8)) (w : World), l.length ≤ n → n ≤ 1048576 → i < l.length → (∀ z ∈ l, z.length ≤ 1048576) → SlX w vl l → SlB w vb b → SlD w vp ps →
      Calls Try.prog 41 #[.int .i64 k, vl, .int .i64 i, vb, vp] w fun e w' => ∃ va vb, e = .returned (wayOf (upN k b n l i ps) va vb) ∧ WayV w' va vb (upN k b n l i ps) ∧ Below w.heap.size w w' := by
  intro n
  induction n with
  | zero => intro vl l i vb vp ps w h1 _ h2; omega
  | succ n ih =>
    intro vl l i vb vp ps w hln hn hi hz hl hsb hp
    by_cases h1 : l.length = 1
    · obtain ⟨x, rfl⟩ : ∃ x, l = [x] := by
        match l, h1 with
        | [x], _ => exact ⟨x, rfl⟩
      have e : upN k b (n + 1) [x] i ps = stepL k ⟨zer, zer, none, decide (ps.length = 0)⟩ (0 :: b) [x] := by unfold upN; rw [if_pos h1]
      rw [e]
      exact rup_leaf k hk vl x i vb b vp ps w hl (hz x (by simp)) hsb bl hp
    · by_cases h0 : ps.length = 0
      · have e : upN k b (n + 1) l i ps = ⟨zer, zer, none, false⟩ := by unfold upN; rw [if_neg h1, if_pos h0]
        rw [e]
        exact rup_none k vl l i vb vp ps w hl h1 hp h0
      · have hkl := kOf_lt (n := l.length) (by omega) (by omega)
        obtain ⟨A, c, rfl, hc, hcm⟩ := hl.len
        obtain ⟨Ap, cp, rfl, hcp, hcpm, _⟩ := id hp.1
        have hpi := hp.slice 0 (ps.length - 1) (by omega) (by omega)
        simp only [List.drop_zero, Nat.sub_zero, slA_zero] at hpi
        by_cases h2 : i < kOf l.length
        · have e : upN k b (n + 1) l i ps = stepL k (upN k b n (l.take (kOf l.length)) i (initL ps)) (ndL (upN k b n (l.take (kOf l.length)) i (initL ps)).new (lastL ps)) l := by
            conv => lhs; unfold upN
            rw [if_neg h1, if_neg h0, if_pos h2]
          rw [e]
          have hL0 := hl.slice 0 (kOf l.length) (by omega) (by omega)
          simp only [List.drop_zero, Nat.sub_zero, slA_zero] at hL0
          have hnl := (upN_ok (k := k) bl n (l.take (kOf l.length)) i (initL ps) (by rw [List.length_take]; omega) (fun z h => hz z (List.mem_of_mem_take h)) (fun d hd => hp.2 d (initL_mem hd))).2
          have hol : (upN k b n (l.take (kOf l.length)) i (initL ps)).old.length = 32 := upN_old _ _ _ _ _ _
          exact rup_left k hk A Ap c cp l i (kOf l.length) vb ps _ w hl (by omega) (by omega) hz hp (by omega) rfl h2
            (fun w' hx => ih _ (l.take (kOf l.length)) i vb _ (initL ps) w' (by rw [List.length_take]; omega) (by omega) (by rw [List.length_take]; omega) (fun z h => hz z (List.mem_of_mem_take h)) (hL0.below hx) (hsb.below hx) (hpi.below hx)) hnl hol
        · have e : upN k b (n + 1) l i ps = stepL k (upN k b n (l.drop (kOf l.length)) (i - kOf l.length) (initL ps)) (ndL (lastL ps) (upN k b n (l.drop (kOf l.length)) (i - kOf l.length) (initL ps)).new) l := by
            conv => lhs; unfold upN
            rw [if_neg h1, if_neg h0, if_neg h2]
          rw [e]
          have hR0 := hl.slice (kOf l.length) l.length (by omega) (Nat.le_refl _)
          rw [List.take_of_length_le (by simp)] at hR0
          have hnl := (upN_ok (k := k) bl n (l.drop (kOf l.length)) (i - kOf l.length) (initL ps) (by rw [List.length_drop]; omega) (fun z h => hz z (List.mem_of_mem_drop h)) (fun d hd => hp.2 d (initL_mem hd))).2
          have hol : (upN k b n (l.drop (kOf l.length)) (i - kOf l.length) (initL ps)).old.length = 32 := upN_old _ _ _ _ _ _
          refine rup_right k hk A Ap c cp l i (kOf l.length) vb ps _ w hl (by omega) (by omega) hz hp (by omega) rfl (by omega) hi ?_ hnl hol
          intro w' hx
          have := ih _ (l.drop (kOf l.length)) (i - kOf l.length) vb _ (initL ps) w' (by rw [List.length_drop]; omega) (by omega) (by rw [List.length_drop]; omega) (fun z h => hz z (List.mem_of_mem_drop h)) (hR0.below hx) (hsb.below hx) (hpi.below hx)
          rw [show ((i - kOf l.length : Nat) : Int) = (i : Int) - (kOf l.length : Nat) by omega] at this
          exact this
end Go.Proofs.Ytnpbapefjbfndaa
