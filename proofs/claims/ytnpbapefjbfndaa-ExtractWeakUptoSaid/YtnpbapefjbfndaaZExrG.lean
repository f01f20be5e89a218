/- grow of the reference: the left part, the right part; all of it (walks). -/
import Derived.Test.YtnpbapefjbfndaaZExrF
set_option linter.unusedVariables false
set_option linter.unusedSimpArgs false
set_option maxRecDepth 10000
namespace Go.Proofs.Ytnpbapefjbfndaa
open Go.RowKit
attribute [local go_sem high] dg_cells guard_dg wy_cells rs_l rs_lh rs_lhm rs_h rs_hm rs_all

set_option maxHeartbeats 16000000 in
theorem rgrow_left (k : Nat) (hk : k ≤ 256) (A Ap : Option Addr) (c cp : Nat) (l : List (List UInt8)) (m j : Nat) (mark : Bool) (old : List UInt8) (ol : old.length = 32) (ps : List (List UInt8)) (wl : WayL) (w : World)
    (hl : SlX w (.slice A l.length c) l) (h2 : 2 ≤ l.length) (hll : l.length ≤ 1048576) (hz : ∀ z ∈ l, z.length ≤ 1048576) (hp : SlD w (.slice Ap ps.length cp) ps) (h0 : 0 < ps.length) (hj : kOf l.length = j) (hml : m ≠ l.length) (hmj : m ≤ j)
    (hup : ∀ w', Ext w w' → Calls Try.prog 43 #[.int .i64 k, .slice A j c, .int .i64 m, .bool mark, dg old, .slice Ap (ps.length - 1) cp] w' fun e w'' => ∃ va vb, e = .returned (wayOf wl va vb) ∧ WayV w'' va vb wl ∧ Below w'.heap.size w' w'')
    (hnl : wl.new.length = 32) (hol : wl.old.length = 32) :
    Calls Try.prog 43 #[.int .i64 k, .slice A l.length c, .int .i64 m, .bool mark, dg old, .slice Ap ps.length cp] w fun e w' => ∃ va vb, e = .returned (wayOf (stepL k wl (ndL wl.new (lastL ps)) l) va vb) ∧ WayV w' va vb (stepL k wl (ndL wl.new (lastL ps)) l) ∧ Below w.heap.size w w' := by
  have hrd00 := Ext.trans (ext_alloc w (.cells (bs old).toArray 38 (0, 0))) (ext_alloc _ (.cells (wyC zer zer nilV nilV false false).toArray 72 (0, 0)))
  obtain ⟨ad, rfl, hrd⟩ := hp.get (i := ps.length - 1) (by omega)
  have hd1 := hp.len32 (i := ps.length - 1) (by omega)
  have hlast : lastL ps = ps.getD (ps.length - 1) [] := rfl
  rw [← hlast] at hrd hd1
  clear hlast
  have hkl := kOf_lt (n := l.length) h2 (by omega)
  rw [hj] at hkl
  have hcl : l.length ≤ c := by obtain ⟨_, _, e, h, _⟩ := hl.len; cases e; exact h
  have hcp : ps.length ≤ cp := by obtain ⟨_, _, e, h, _⟩ := hp.1; cases e; exact h
  have hcpm : cp ≤ 9223372036854775807 := by obtain ⟨_, _, e, _, h, _⟩ := hp.1; cases e; exact h
  have hh := fun w' => rhalf_any l.length w' h2 hll
  rw [hj] at hh
  have hnd := fun w' => rnode_own wl.new (lastL ps) hnl hd1 w'
  have htl : (ndL wl.new (lastL ps)).length = 65 := ndL_length _ _ hnl hd1
  generalize lastL ps = lst at *
  generalize ndL wl.new lst = t at *
  have q1 : ((m : Int) == l.length) = false := by rw [beq_eq_false_iff_ne]; omega
  have q2 : ((ps.length : Int) == 0) = false := by rw [beq_eq_false_iff_ne]; omega
  have hps : (ps.length : Int) ≤ 9223372036854775807 := by omega
  have j0 : (0 : Int) ≤ (ps.length : Int) - 1 := by omega
  have j1 : (ps.length : Int) - 1 < ps.length := by omega
  have j4 : (1 : Int) ≤ ps.length := by omega
  have j2 : ((ps.length : Int) - 1).toNat = ps.length - 1 := by omega
  have j3 : (ps.length : Int) - 1 ≤ cp := by omega
  have j5 : IntKind.i64.wrap ((ps.length : Int) - 1) = (ps.length : Int) - 1 := by rw [IntKind.wrap_i64]; omega
  have g1 : (j : Int) ≤ c := by omega
  have g2 : (m : Int) ≤ j := by omega
  have hrd0 := hrd.below' hrd00
  obtain ⟨hL0, hO0, hR0, hL1, b2⟩ := allocsL w old lst _ rfl
  have cur0 : CurR w (w.heap.size + 1) (w.heap.size + 1 + 1) lst none none (((((w.alloc (.cells (bs old).toArray 38 (0, 0))).alloc (.cells (wyC zer zer nilV nilV false false).toArray 72 (0, 0))).alloc (.cells (bs zer).toArray 38 (0, 0)))).setRow (w.heap.size + 1 + 1) (bs lst).toArray) :=
    ⟨b2, hR0, hL1, Nat.lt_succ_self _, Nat.le_succ _, (fun _ _ _ e => by cases e), (fun B e => by cases e)⟩
  replace hj : Hid _ := hj
  clear hkl hcl hcp hcpm hrd b2 hR0 hL1 hrd00
  change Calls _ _ #[_, _, _, _, .agg (bs old).toArray, _] _ _
  go_enter Try.func43, Try.ntmps43
  go_wp2_with (first
    | ((with_reducible refine at_load ?_); refine arr_dg.loadAtL hrd0 (by rfl) hd1 _ rfl rfl ?_)
    | ((with_reducible refine at_store ?_); refine arr_dg.storeL hL0 zer_length rfl hd1 _ _ rfl rfl rfl ?_))
  refine (hh _).mono ?_; rintro e w' ⟨rfl, rfl⟩
  go_upto_region 10 with fail
  generalize hW : World.setRow (World.alloc (World.alloc (World.alloc w _) _) _) _ _ = W
  have hW2 : ((((w.alloc (.cells (bs old).toArray 38 (0, 0))).alloc (.cells (wyC zer zer nilV nilV false false).toArray 72 (0, 0))).alloc (.cells (bs zer).toArray 38 (0, 0)))).setRow (w.heap.size + 1 + 1) (bs lst).toArray = W := by rw [← hW]; rfl
  rw [hW2] at cur0 hO0
  clear hW hW2 hh hrd0 hL0
  go_cut [15] (fun s13 wx => ∃ D va vb, s13 = .pointer (some ⟨D, 0, none⟩) ∧ CutR w (w.heap.size + 1) (w.heap.size + 1 + 1) D lst wl va vb wx)
  case first =>
    have cur := CurR.ext cur0 (ext_drew _)
    have hS : Below w.heap.size w W.drew ∧ RowT 38 W.drew w.heap.size old := ⟨cur.below, hO0.below (ext_drew _)⟩
    clear cur0 hnd hd1 hO0
    refine wp_region_S (fun w' => Below w.heap.size w w' ∧ RowT 38 w' w.heap.size old) (by kernel_rfl) ?_
    refine wpAnyS_take (i := 0) (v := ?_) hS (some 56) rfl rfl (by kernel_rfl) (by kernel_rfl) (by kernel_rfl) (fun _ _ _ h => h) ?_ ?_
    rotate_left 1
    · (refine Or.inl ⟨by rfl, ?_⟩; intro w' hw'; (try go_simp); (try rfl); done)
    try simp only [Act.put, List.setIfInBounds_toArray, List.set_cons_zero, List.set_cons_succ]
    refine wpAnyS_take (i := 1) (v := ?_) hS (some 57) rfl rfl (by kernel_rfl) (by kernel_rfl) (by kernel_rfl) (fun _ _ _ h => h) ?_ ?_
    rotate_left 1
    · (refine Or.inl ⟨by rfl, ?_⟩; intro w' hw'; (try go_simp); (try rfl); done)
    try simp only [Act.put, List.setIfInBounds_toArray, List.set_cons_zero, List.set_cons_succ]
    refine wpAnyS_take (i := 2) (v := ?_) hS (some 58) rfl rfl (by kernel_rfl) (by kernel_rfl) (by kernel_rfl) (fun _ _ _ h => h) ?_ ?_
    rotate_left 1
    · (refine Or.inl ⟨by rfl, ?_⟩; intro w' hw'; (try go_simp); (try rfl); done)
    try simp only [Act.put, List.setIfInBounds_toArray, List.set_cons_zero, List.set_cons_succ]
    refine wpAnyS_take (i := 3) (v := ?_) hS (some 59) rfl rfl (by kernel_rfl) (by kernel_rfl) (by kernel_rfl) (fun _ _ _ h => h) ?_ ?_
    rotate_left 1
    · (refine Or.inl ⟨by rfl, ?_⟩; intro w' hw'; (try go_simp); (try rfl); done)
    try simp only [Act.put, List.setIfInBounds_toArray, List.set_cons_zero, List.set_cons_succ]
    refine wpAnyS_take (i := 4) (v := ?_) hS (some 60) rfl rfl (by kernel_rfl) (by kernel_rfl) (by kernel_rfl) (fun _ _ _ h => h) ?_ ?_
    rotate_left 1
    · (refine Or.inl ⟨by rfl, ?_⟩; intro w' hw'; (try go_simp); (try rfl); done)
    try simp only [Act.put, List.setIfInBounds_toArray, List.set_cons_zero, List.set_cons_succ]
    refine wpAnyS_take (i := 5) (v := ?_) hS (some 61) rfl rfl (by kernel_rfl) (by kernel_rfl) (by kernel_rfl) (fun _ _ _ h => h) ?_ ?_
    rotate_left 1
    · (refine Or.inl ⟨by rfl, ?_⟩; intro w' hw'; (try go_simp); (try rfl); done)
    try simp only [Act.put, List.setIfInBounds_toArray, List.set_cons_zero, List.set_cons_succ]
    refine wpAnyS_take (i := 6) (v := ?_) hS (some 62) rfl rfl (by kernel_rfl) (by kernel_rfl) (by kernel_rfl) (fun _ _ _ h => h) ?_ ?_
    rotate_left 1
    · (refine Or.inl ⟨by rfl, ?_⟩; intro w' hw'; (refine arr_dg.ex hw'.2 ol (.tmp 10) ?_ ?_ <;> rfl))
    try simp only [Act.put, List.setIfInBounds_toArray, List.set_cons_zero, List.set_cons_succ]
    refine wpAnyS_take (i := 7) (v := ?_) hS (some 63) rfl rfl (by kernel_rfl) (by kernel_rfl) (by kernel_rfl) (fun _ _ _ h => h) ?_ ?_
    rotate_left 1
    · (refine Or.inl ⟨by rfl, ?_⟩; intro w' hw'; (try go_simp); (try rfl); done)
    try simp only [Act.put, List.setIfInBounds_toArray, List.set_cons_zero, List.set_cons_succ]
    refine wpAnyS_take (i := 8) (v := ?_) hS (some 64) rfl rfl (by kernel_rfl) (by kernel_rfl) (by kernel_rfl) (fun _ _ _ h => h) ?_ ?_
    rotate_left 1
    · (refine Or.inl ⟨by rfl, ?_⟩; intro w' hw'; (try go_simp); (try rfl); done)
    try simp only [Act.put, List.setIfInBounds_toArray, List.set_cons_zero, List.set_cons_succ]
    refine wpAnyS_take (i := 9) (v := ?_) hS (some 65) rfl rfl (by kernel_rfl) (by kernel_rfl) (by kernel_rfl) (fun _ _ _ h => h) ?_ ?_
    rotate_left 1
    · (refine Or.inl ⟨by rfl, ?_⟩; intro w' hw'; (try go_simp); (try rfl); done)
    try simp only [Act.put, List.setIfInBounds_toArray, List.set_cons_zero, List.set_cons_succ]
    refine wpAnyS_take (i := 10) (v := ?_) hS (some 66) rfl rfl (by kernel_rfl) (by kernel_rfl) (by kernel_rfl) (fun _ _ _ h => h) ?_ ?_
    rotate_left 1
    · (refine Or.inl ⟨by rfl, ?_⟩; intro w' hw'; (try go_simp); (try rfl); done)
    try simp only [Act.put, List.setIfInBounds_toArray, List.set_cons_zero, List.set_cons_succ]
    refine wpAnyS_take (i := 11) (v := ?_) hS (some 67) rfl rfl (by kernel_rfl) (by kernel_rfl) (by kernel_rfl) (fun _ _ _ h => h) ?_ ?_
    rotate_left 1
    · (refine Or.inl ⟨by rfl, ?_⟩; intro w' hw'; (try go_simp); (try rfl); done)
    try simp only [Act.put, List.setIfInBounds_toArray, List.set_cons_zero, List.set_cons_succ]
    refine wpAnyS_fork2 (i := 12) (j := 13) (by kernel_rfl) rfl (by rfl) rfl (by rfl) (fun K hK => ?_) (fun K hK => ?_)
    · go_simp
      have hu := hup _ hS.1
      (with_reducible refine hu.mono ?_); rintro e w5 ⟨va, vb', rfl, hv5, b5⟩
      clear hu
      have oa := sl_one' hv5.a.sl
      have ob := sl_one' hv5.b.sl
      replace cur := cur.call b5 hv5
      have hb := And.intro cur.below (hS.2.below b5)
      clear b5 hv5
      refine hK.out _ _ hb ?_
      replace hS := hb
      clear hK K hb
      try simp only [Act.put, List.setIfInBounds_toArray, List.set_cons_zero, List.set_cons_succ]
      refine wpAnyS_one (i := 13) rfl (by kernel_rfl) (by rfl) (fun K hK => ?_)
      refine wp_alloc_at (some 15) 72 rfl rfl _ (zeroY _) ?_
      replace cur := cur.alloc
      have ho := hS.2.below (ext_alloc _ (.cells (wyC zer zer nilV nilV false false).toArray 72 (0, 0)))
      generalize World.alloc _ _ = Wn at *
      have hb := And.intro cur.below ho
      clear ho
      refine hK.out _ _ hb ?_
      replace hS := hb
      clear hK K hb
      try simp only [Act.put, List.setIfInBounds_toArray, List.set_cons_zero, List.set_cons_succ]
      refine wpAnyS_one (i := 14) rfl (by kernel_rfl) (by rfl) (fun K hK => ?_)
      have lD := (cur.ax _ rfl).1
      refine wp_storeY (cur.ax _ rfl).2 zer_length zer_length hol hnl oa ob _ _ rfl rfl rfl ?_
      have hb := And.intro cur.cut.below (hS.2.other (D := _) (Nat.ne_of_lt (Nat.lt_trans (Nat.lt_trans (Nat.lt_succ_self _) (Nat.lt_succ_self _)) lD)) (wyC wl.old wl.new va vb' wl.p.isSome wl.fits).toArray)
      refine hK.out _ _ hb ?_
      replace hS := hb
      clear hK K hb
      try simp only [Act.put, List.setIfInBounds_toArray, List.set_cons_zero, List.set_cons_succ]
      refine wpAnyS_done (by kernel_rfl) ?_ _
      go_wp2_with fail
      go_meet
      exact ⟨_, _, _, rfl, cur.cut⟩
    · refine wp_alloc_at (some 15) 72 rfl rfl _ (zeroY _) ?_
      replace cur := cur.alloc
      have ho := hS.2.below (ext_alloc _ (.cells (wyC zer zer nilV nilV false false).toArray 72 (0, 0)))
      generalize World.alloc _ _ = Wn at *
      have hb := And.intro cur.below ho
      clear ho
      refine hK.out _ _ hb ?_
      replace hS := hb
      clear hK K hb
      try simp only [Act.put, List.setIfInBounds_toArray, List.set_cons_zero, List.set_cons_succ]
      refine wpAnyS_one (i := 12) rfl (by kernel_rfl) (by rfl) (fun K hK => ?_)
      go_simp
      have hu := hup _ hS.1
      (with_reducible refine hu.mono ?_); rintro e w5 ⟨va, vb', rfl, hv5, b5⟩
      clear hu
      have oa := sl_one' hv5.a.sl
      have ob := sl_one' hv5.b.sl
      replace cur := cur.call b5 hv5
      have hb := And.intro cur.below (hS.2.below b5)
      clear b5 hv5
      refine hK.out _ _ hb ?_
      replace hS := hb
      clear hK K hb
      try simp only [Act.put, List.setIfInBounds_toArray, List.set_cons_zero, List.set_cons_succ]
      refine wpAnyS_one (i := 14) rfl (by kernel_rfl) (by rfl) (fun K hK => ?_)
      have lD := (cur.ax _ rfl).1
      refine wp_storeY (cur.ax _ rfl).2 zer_length zer_length hol hnl oa ob _ _ rfl rfl rfl ?_
      have hb := And.intro cur.cut.below (hS.2.other (D := _) (Nat.ne_of_lt (Nat.lt_trans (Nat.lt_trans (Nat.lt_succ_self _) (Nat.lt_succ_self _)) lD)) (wyC wl.old wl.new va vb' wl.p.isSome wl.fits).toArray)
      refine hK.out _ _ hb ?_
      replace hS := hb
      clear hK K hb
      try simp only [Act.put, List.setIfInBounds_toArray, List.set_cons_zero, List.set_cons_succ]
      refine wpAnyS_done (by kernel_rfl) ?_ _
      go_wp2_with fail
      go_meet
      exact ⟨_, _, _, rfl, cur.cut⟩
  case rest =>
    obtain ⟨D, va, vb', rfl, hc⟩ := hcut
    clear cur0 hup hO0
    have hc1 := hc.ext (ext_drew wc)
    have hS : Below w.heap.size w wc.drew ∧ RowT 38 wc.drew (w.heap.size + 1 + 1) lst ∧ RowY wc.drew D wl.old wl.new va vb' wl.p.isSome wl.fits := ⟨hc1.below, hc1.rL, hc1.rD⟩
    have rR := hc1.rR
    have wv := hc1.wv
    have nD : Hid (w.heap.size + 1 + 1 < D) := hc1.lD
    clear hc hc1
    go_wp2_with fail
    refine wp_region_S (fun w' => Below w.heap.size w w' ∧ RowT 38 w' (w.heap.size + 1 + 1) lst ∧ RowY w' D wl.old wl.new va vb' wl.p.isSome wl.fits) (by kernel_rfl) ?_
    refine wpAnyS_take (i := 0) (v := ?_) hS (some 69) rfl rfl (by kernel_rfl) (by kernel_rfl) (by kernel_rfl) (fun _ _ _ h => h) ?_ ?_
    rotate_left 1
    · (refine Or.inl ⟨by rfl, ?_⟩; intro w' hw'; (try go_simp); (try rfl); done)
    try simp only [Act.put, List.setIfInBounds_toArray, List.set_cons_zero, List.set_cons_succ]
    refine wpAnyS_take (i := 1) (v := ?_) hS (some 70) rfl rfl (by kernel_rfl) (by kernel_rfl) (by kernel_rfl) (fun _ _ _ h => h) ?_ ?_
    rotate_left 1
    · (refine Or.inl ⟨by rfl, ?_⟩; intro w' hw'; (refine RowY.ex hw'.2.2 hol hnl (.tmp 15) ?_ ?_ <;> rfl))
    try simp only [Act.put, List.setIfInBounds_toArray, List.set_cons_zero, List.set_cons_succ]
    refine wpAnyS_take (i := 2) (v := ?_) hS (some 71) rfl rfl (by kernel_rfl) (by kernel_rfl) (by kernel_rfl) (fun _ _ _ h => h) ?_ ?_
    rotate_left 1
    · (refine Or.inl ⟨by rfl, ?_⟩; intro w' hw'; (try go_simp); (try rfl); done)
    try simp only [Act.put, List.setIfInBounds_toArray, List.set_cons_zero, List.set_cons_succ]
    refine wpAnyS_take (i := 3) (v := ?_) hS (some 72) rfl rfl (by kernel_rfl) (by kernel_rfl) (by kernel_rfl) (fun _ _ _ h => h) ?_ ?_
    rotate_left 1
    · (refine Or.inl ⟨by rfl, ?_⟩; intro w' hw'; (refine arr_dg.exAt' (hw'.2.2.new hol hnl) hnl (.tmp 71) ?_ ?_ <;> rfl))
    try simp only [Act.put, List.setIfInBounds_toArray, List.set_cons_zero, List.set_cons_succ]
    refine wpAnyS_take (i := 4) (v := ?_) hS (some 73) rfl rfl (by kernel_rfl) (by kernel_rfl) (by kernel_rfl) (fun _ _ _ h => h) ?_ ?_
    rotate_left 1
    · (refine Or.inl ⟨by rfl, ?_⟩; intro w' hw'; (refine arr_dg.ex hw'.2.1 hd1 (.tmp 13) ?_ ?_ <;> rfl))
    try simp only [Act.put, List.setIfInBounds_toArray, List.set_cons_zero, List.set_cons_succ]
    refine wpAnyS_take (i := 6) (v := ?_) hS (some 75) rfl rfl (by kernel_rfl) (by kernel_rfl) (by kernel_rfl) (fun _ _ _ h => h) ?_ ?_
    rotate_left 1
    · (refine Or.inl ⟨by rfl, ?_⟩; intro w' hw'; (try go_simp); (try rfl); done)
    try simp only [Act.put, List.setIfInBounds_toArray, List.set_cons_zero, List.set_cons_succ]
    refine wpAnyS_one (i := 5) rfl (by kernel_rfl) (by rfl) (fun K hK => ?_)
    go_simp
    (with_reducible refine (hnd _).mono ?_); rintro e w6 ⟨v6, rfl, s6, b6⟩
    have x6 : Ext wc.drew w6 := b6
    have hb : Below w.heap.size w w6 ∧ RowT 38 w6 (w.heap.size + 1 + 1) lst ∧ RowY w6 D wl.old wl.new va vb' wl.p.isSome wl.fits := ⟨Below.trans hS.1 (x6.mono hS.1.size), hS.2.1.below x6, hS.2.2.ext x6⟩
    refine hK.out _ _ hb ?_
    replace hS := hb
    clear hK K hb
    try simp only [Act.put, List.setIfInBounds_toArray, List.set_cons_zero, List.set_cons_succ]
    refine wpAnyS_one (i := 7) rfl (by kernel_rfl) (by rfl) (fun K hK => ?_)
    go_simp
    have hst := step_any k hk wl va vb' v6 (.slice A l.length c) t l w6 (wv.below x6) s6 (by rw [htl]; decide) (hl.below hS.1) hll hz
    unfold wayOf at hst
    (with_reducible refine hst.mono ?_); rintro e w7 ⟨va2, vb2, rfl, hv7, b7⟩
    have x7 := Ext.trans x6 b7
    have rR7 := rR.ext x7
    have hb : Below w.heap.size w w7 ∧ RowT 38 w7 (w.heap.size + 1 + 1) lst ∧ RowY w7 D wl.old wl.new va vb' wl.p.isSome wl.fits := ⟨Below.trans hS.1 (b7.mono hS.1.size), hS.2.1.below b7, hS.2.2.ext b7⟩
    clear hst
    generalize hwl : stepL k wl t l = wl2 at *
    replace hwl : Hid _ := hwl
    refine hK.out _ _ hb ?_
    replace hS := hb
    clear hK K hb
    try simp only [Act.put, List.setIfInBounds_toArray, List.set_cons_zero, List.set_cons_succ]
    refine wpAnyS_one (i := 8) rfl (by kernel_rfl) (by rfl) (fun K hK => ?_)
    refine wp_storeY rR7 zer_length zer_length hv7.lo hv7.ln (sl_one' hv7.a.sl) (sl_one' hv7.b.sl) _ _ rfl rfl rfl ?_
    have hret := (rR7.setRow wl2.old wl2.new va2 vb2 wl2.p.isSome wl2.fits).load hv7.lo hv7.ln
    have hv8 := hv7.row rR7 (by decide) (wyC wl2.old wl2.new va2 vb2 wl2.p.isSome wl2.fits).toArray
    have bz := below_setRow hS.1 (Nat.le_succ w.heap.size) (wyC wl2.old wl2.new va2 vb2 wl2.p.isSome wl2.fits).toArray
    have hb := And.intro bz (And.intro (hS.2.1.other (D := w.heap.size + 1) (by omega) (wyC wl2.old wl2.new va2 vb2 wl2.p.isSome wl2.fits).toArray) (hS.2.2.row (E := w.heap.size + 1) (by have := nD.out; omega) (wyC wl2.old wl2.new va2 vb2 wl2.p.isSome wl2.fits).toArray))
    refine hK.out _ _ hb ?_
    replace hS := hb
    clear hK K hb
    try simp only [Act.put, List.setIfInBounds_toArray, List.set_cons_zero, List.set_cons_succ]
    refine wpAnyS_done (by kernel_rfl) ?_ _
    go_wp2_with fail
    exact ret_cell (v := wayOf wl2 va2 vb2) Try.results43 rfl hret rfl (by rw [hwl.out]; exact ⟨_, _, rfl, hv8, bz⟩)
set_option maxHeartbeats 16000000 in
theorem rgrow_right (k : Nat) (hk : k ≤ 256) (A Ap : Option Addr) (c cp : Nat) (l : List (List UInt8)) (m j : Nat) (mark : Bool) (old : List UInt8) (ol : old.length = 32) (ps : List (List UInt8)) (wl : WayL) (w : World)
    (hl : SlX w (.slice A l.length c) l) (h2 : 2 ≤ l.length) (hll : l.length ≤ 1048576) (hz : ∀ z ∈ l, z.length ≤ 1048576) (hp : SlD w (.slice Ap ps.length cp) ps) (h0 : 0 < ps.length) (hj : kOf l.length = j) (hml : m ≠ l.length) (hmj : j < m) (hm2 : m ≤ l.length)
    (hup : ∀ w', Ext w w' → Calls Try.prog 43 #[.int .i64 k, .slice (slA A j c 1) (l.length - j) (c - j), .int .i64 ((m : Int) - j), .bool false, dg old, .slice Ap (ps.length - 1) cp] w' fun e w'' => ∃ va vb, e = .returned (wayOf wl va vb) ∧ WayV w'' va vb wl ∧ Below w'.heap.size w' w'')
    (hnl : wl.new.length = 32) (hol : wl.old.length = 32) :
    Calls Try.prog 43 #[.int .i64 k, .slice A l.length c, .int .i64 m, .bool mark, dg old, .slice Ap ps.length cp] w fun e w' => ∃ va vb, e = .returned (wayOf (stepL k { wl with old := hashL k (ndL (lastL ps) wl.old) } (ndL (lastL ps) wl.new) l) va vb) ∧ WayV w' va vb (stepL k { wl with old := hashL k (ndL (lastL ps) wl.old) } (ndL (lastL ps) wl.new) l) ∧ Below w.heap.size w w' := by
  have hrd00 := Ext.trans (ext_alloc w (.cells (bs old).toArray 38 (0, 0))) (ext_alloc _ (.cells (wyC zer zer nilV nilV false false).toArray 72 (0, 0)))
  obtain ⟨ad, rfl, hrd⟩ := hp.get (i := ps.length - 1) (by omega)
  have hd1 := hp.len32 (i := ps.length - 1) (by omega)
  have hlast : lastL ps = ps.getD (ps.length - 1) [] := rfl
  rw [← hlast] at hrd hd1
  clear hlast
  have hkl := kOf_lt (n := l.length) h2 (by omega)
  rw [hj] at hkl
  have hcl : l.length ≤ c := by obtain ⟨_, _, e, h, _⟩ := hl.len; cases e; exact h
  have hcp : ps.length ≤ cp := by obtain ⟨_, _, e, h, _⟩ := hp.1; cases e; exact h
  have hcpm : cp ≤ 9223372036854775807 := by obtain ⟨_, _, e, _, h, _⟩ := hp.1; cases e; exact h
  have hh := fun w' => rhalf_any l.length w' h2 hll
  rw [hj] at hh
  have hnd := fun w' => rnode_own (lastL ps) wl.new hd1 hnl w'
  have hnd2 := fun w' => rnode_own (lastL ps) wl.old hd1 hol w'
  have htl2 : (ndL (lastL ps) wl.old).length = 65 := ndL_length _ _ hd1 hol
  have htl : (ndL (lastL ps) wl.new).length = 65 := ndL_length _ _ hd1 hnl
  generalize lastL ps = lst at *
  generalize ndL lst wl.new = t at *
  generalize ndL lst wl.old = t2 at *
  have hdl2 := hashL_length k t2
  have q1 : ((m : Int) == l.length) = false := by rw [beq_eq_false_iff_ne]; omega
  have q2 : ((ps.length : Int) == 0) = false := by rw [beq_eq_false_iff_ne]; omega
  have hps : (ps.length : Int) ≤ 9223372036854775807 := by omega
  have j0 : (0 : Int) ≤ (ps.length : Int) - 1 := by omega
  have j1 : (ps.length : Int) - 1 < ps.length := by omega
  have j4 : (1 : Int) ≤ ps.length := by omega
  have j2 : ((ps.length : Int) - 1).toNat = ps.length - 1 := by omega
  have j3 : (ps.length : Int) - 1 ≤ cp := by omega
  have j5 : IntKind.i64.wrap ((ps.length : Int) - 1) = (ps.length : Int) - 1 := by rw [IntKind.wrap_i64]; omega
  have g1 : (j : Int) ≤ c := by omega
  have g2 : ¬ (m : Int) ≤ j := by omega
  have g3 : (j : Int) ≤ l.length := by omega
  have wij : IntKind.i64.wrap ((m : Int) - j) = (m : Int) - j := by rw [IntKind.wrap_i64]; omega
  have hrd0 := hrd.below' hrd00
  obtain ⟨hL0, hO0, hR0, hL1, b2⟩ := allocsL w old lst _ rfl
  have cur0 : CurR w (w.heap.size + 1) (w.heap.size + 1 + 1) lst none none (((((w.alloc (.cells (bs old).toArray 38 (0, 0))).alloc (.cells (wyC zer zer nilV nilV false false).toArray 72 (0, 0))).alloc (.cells (bs zer).toArray 38 (0, 0)))).setRow (w.heap.size + 1 + 1) (bs lst).toArray) :=
    ⟨b2, hR0, hL1, Nat.lt_succ_self _, Nat.le_succ _, (fun _ _ _ e => by cases e), (fun B e => by cases e)⟩
  replace hj : Hid _ := hj
  clear hkl hcl hcp hcpm hrd b2 hR0 hL1 hrd00
  change Calls _ _ #[_, _, _, _, .agg (bs old).toArray, _] _ _
  go_enter Try.func43, Try.ntmps43
  go_wp2_with (first
    | ((with_reducible refine at_load ?_); refine arr_dg.loadAtL hrd0 (by rfl) hd1 _ rfl rfl ?_)
    | ((with_reducible refine at_store ?_); refine arr_dg.storeL hL0 zer_length rfl hd1 _ _ rfl rfl rfl ?_))
  refine (hh _).mono ?_; rintro e w' ⟨rfl, rfl⟩
  go_upto_region 12 with fail
  generalize hW : World.setRow (World.alloc (World.alloc (World.alloc w _) _) _) _ _ = W
  have hW2 : ((((w.alloc (.cells (bs old).toArray 38 (0, 0))).alloc (.cells (wyC zer zer nilV nilV false false).toArray 72 (0, 0))).alloc (.cells (bs zer).toArray 38 (0, 0)))).setRow (w.heap.size + 1 + 1) (bs lst).toArray = W := by rw [← hW]; rfl
  rw [hW2] at cur0 hO0
  clear hW hW2 hh hrd0 hL0
  go_cut [16] (fun s13 wx => ∃ D va vb, s13 = .pointer (some ⟨D, 0, none⟩) ∧ CutR w (w.heap.size + 1) (w.heap.size + 1 + 1) D lst wl va vb wx)
  case first =>
    have cur := CurR.ext cur0 (ext_drew _)
    have hS : Below w.heap.size w W.drew ∧ RowT 38 W.drew w.heap.size old := ⟨cur.below, hO0.below (ext_drew _)⟩
    clear cur0 hnd hd1 hO0 hnd2
    refine wp_region_S (fun w' => Below w.heap.size w w' ∧ RowT 38 w' w.heap.size old) (by kernel_rfl) ?_
    refine wpAnyS_take (i := 0) (v := ?_) hS (some 77) rfl rfl (by kernel_rfl) (by kernel_rfl) (by kernel_rfl) (fun _ _ _ h => h) ?_ ?_
    rotate_left 1
    · (refine Or.inl ⟨by rfl, ?_⟩; intro w' hw'; (try go_simp); (try rfl); done)
    try simp only [Act.put, List.setIfInBounds_toArray, List.set_cons_zero, List.set_cons_succ]
    refine wpAnyS_take (i := 1) (v := ?_) hS (some 78) rfl rfl (by kernel_rfl) (by kernel_rfl) (by kernel_rfl) (fun _ _ _ h => h) ?_ ?_
    rotate_left 1
    · (refine Or.inl ⟨by rfl, ?_⟩; intro w' hw'; (try go_simp); (try rfl); done)
    try simp only [Act.put, List.setIfInBounds_toArray, List.set_cons_zero, List.set_cons_succ]
    refine wpAnyS_take (i := 2) (v := ?_) hS (some 79) rfl rfl (by kernel_rfl) (by kernel_rfl) (by kernel_rfl) (fun _ _ _ h => h) ?_ ?_
    rotate_left 1
    · (refine Or.inl ⟨by rfl, ?_⟩; intro w' hw'; (try go_simp); (try rfl); done)
    try simp only [Act.put, List.setIfInBounds_toArray, List.set_cons_zero, List.set_cons_succ]
    refine wpAnyS_take (i := 3) (v := ?_) hS (some 80) rfl rfl (by kernel_rfl) (by kernel_rfl) (by kernel_rfl) (fun _ _ _ h => h) ?_ ?_
    rotate_left 1
    · (refine Or.inl ⟨by rfl, ?_⟩; intro w' hw'; (try go_simp); (try rfl); done)
    try simp only [Act.put, List.setIfInBounds_toArray, List.set_cons_zero, List.set_cons_succ]
    refine wpAnyS_take (i := 4) (v := ?_) hS (some 81) rfl rfl (by kernel_rfl) (by kernel_rfl) (by kernel_rfl) (fun _ _ _ h => h) ?_ ?_
    rotate_left 1
    · (refine Or.inl ⟨by rfl, ?_⟩; intro w' hw'; (try go_simp); (try rfl); done)
    try simp only [Act.put, List.setIfInBounds_toArray, List.set_cons_zero, List.set_cons_succ]
    refine wpAnyS_take (i := 5) (v := ?_) hS (some 82) rfl rfl (by kernel_rfl) (by kernel_rfl) (by kernel_rfl) (fun _ _ _ h => h) ?_ ?_
    rotate_left 1
    · (refine Or.inl ⟨by rfl, ?_⟩; intro w' hw'; (try go_simp); (try rfl); done)
    try simp only [Act.put, List.setIfInBounds_toArray, List.set_cons_zero, List.set_cons_succ]
    refine wpAnyS_take (i := 6) (v := ?_) hS (some 83) rfl rfl (by kernel_rfl) (by kernel_rfl) (by kernel_rfl) (fun _ _ _ h => h) ?_ ?_
    rotate_left 1
    · (refine Or.inl ⟨by rfl, ?_⟩; intro w' hw'; (try go_simp); (try rfl); done)
    try simp only [Act.put, List.setIfInBounds_toArray, List.set_cons_zero, List.set_cons_succ]
    refine wpAnyS_take (i := 7) (v := ?_) hS (some 84) rfl rfl (by kernel_rfl) (by kernel_rfl) (by kernel_rfl) (fun _ _ _ h => h) ?_ ?_
    rotate_left 1
    · (refine Or.inl ⟨by rfl, ?_⟩; intro w' hw'; (refine arr_dg.ex hw'.2 ol (.tmp 10) ?_ ?_ <;> rfl))
    try simp only [Act.put, List.setIfInBounds_toArray, List.set_cons_zero, List.set_cons_succ]
    refine wpAnyS_take (i := 8) (v := ?_) hS (some 85) rfl rfl (by kernel_rfl) (by kernel_rfl) (by kernel_rfl) (fun _ _ _ h => h) ?_ ?_
    rotate_left 1
    · (refine Or.inl ⟨by rfl, ?_⟩; intro w' hw'; (try go_simp); (try rfl); done)
    try simp only [Act.put, List.setIfInBounds_toArray, List.set_cons_zero, List.set_cons_succ]
    refine wpAnyS_take (i := 9) (v := ?_) hS (some 86) rfl rfl (by kernel_rfl) (by kernel_rfl) (by kernel_rfl) (fun _ _ _ h => h) ?_ ?_
    rotate_left 1
    · (refine Or.inl ⟨by rfl, ?_⟩; intro w' hw'; (try go_simp); (try rfl); done)
    try simp only [Act.put, List.setIfInBounds_toArray, List.set_cons_zero, List.set_cons_succ]
    refine wpAnyS_take (i := 10) (v := ?_) hS (some 87) rfl rfl (by kernel_rfl) (by kernel_rfl) (by kernel_rfl) (fun _ _ _ h => h) ?_ ?_
    rotate_left 1
    · (refine Or.inl ⟨by rfl, ?_⟩; intro w' hw'; (try go_simp); (try rfl); done)
    try simp only [Act.put, List.setIfInBounds_toArray, List.set_cons_zero, List.set_cons_succ]
    refine wpAnyS_take (i := 11) (v := ?_) hS (some 88) rfl rfl (by kernel_rfl) (by kernel_rfl) (by kernel_rfl) (fun _ _ _ h => h) ?_ ?_
    rotate_left 1
    · (refine Or.inl ⟨by rfl, ?_⟩; intro w' hw'; (try go_simp); (try rfl); done)
    try simp only [Act.put, List.setIfInBounds_toArray, List.set_cons_zero, List.set_cons_succ]
    refine wpAnyS_take (i := 12) (v := ?_) hS (some 89) rfl rfl (by kernel_rfl) (by kernel_rfl) (by kernel_rfl) (fun _ _ _ h => h) ?_ ?_
    rotate_left 1
    · (refine Or.inl ⟨by rfl, ?_⟩; intro w' hw'; (try go_simp); (try rfl); done)
    try simp only [Act.put, List.setIfInBounds_toArray, List.set_cons_zero, List.set_cons_succ]
    refine wpAnyS_fork2 (i := 13) (j := 14) (by kernel_rfl) rfl (by rfl) rfl (by rfl) (fun K hK => ?_) (fun K hK => ?_)
    · go_simp
      have hu := hup _ hS.1
      (with_reducible refine hu.mono ?_); rintro e w5 ⟨va, vb', rfl, hv5, b5⟩
      clear hu
      have oa := sl_one' hv5.a.sl
      have ob := sl_one' hv5.b.sl
      replace cur := cur.call b5 hv5
      have hb := And.intro cur.below (hS.2.below b5)
      clear b5 hv5
      refine hK.out _ _ hb ?_
      replace hS := hb
      clear hK K hb
      try simp only [Act.put, List.setIfInBounds_toArray, List.set_cons_zero, List.set_cons_succ]
      refine wpAnyS_one (i := 14) rfl (by kernel_rfl) (by rfl) (fun K hK => ?_)
      refine wp_alloc_at (some 16) 72 rfl rfl _ (zeroY _) ?_
      replace cur := cur.alloc
      have ho := hS.2.below (ext_alloc _ (.cells (wyC zer zer nilV nilV false false).toArray 72 (0, 0)))
      generalize World.alloc _ _ = Wn at *
      have hb := And.intro cur.below ho
      clear ho
      refine hK.out _ _ hb ?_
      replace hS := hb
      clear hK K hb
      try simp only [Act.put, List.setIfInBounds_toArray, List.set_cons_zero, List.set_cons_succ]
      refine wpAnyS_one (i := 15) rfl (by kernel_rfl) (by rfl) (fun K hK => ?_)
      have lD := (cur.ax _ rfl).1
      refine wp_storeY (cur.ax _ rfl).2 zer_length zer_length hol hnl oa ob _ _ rfl rfl rfl ?_
      have hb := And.intro cur.cut.below (hS.2.other (D := _) (Nat.ne_of_lt (Nat.lt_trans (Nat.lt_trans (Nat.lt_succ_self _) (Nat.lt_succ_self _)) lD)) (wyC wl.old wl.new va vb' wl.p.isSome wl.fits).toArray)
      refine hK.out _ _ hb ?_
      replace hS := hb
      clear hK K hb
      try simp only [Act.put, List.setIfInBounds_toArray, List.set_cons_zero, List.set_cons_succ]
      refine wpAnyS_done (by kernel_rfl) ?_ _
      go_wp2_with fail
      go_meet
      exact ⟨_, _, _, rfl, cur.cut⟩
    · refine wp_alloc_at (some 16) 72 rfl rfl _ (zeroY _) ?_
      replace cur := cur.alloc
      have ho := hS.2.below (ext_alloc _ (.cells (wyC zer zer nilV nilV false false).toArray 72 (0, 0)))
      generalize World.alloc _ _ = Wn at *
      have hb := And.intro cur.below ho
      clear ho
      refine hK.out _ _ hb ?_
      replace hS := hb
      clear hK K hb
      try simp only [Act.put, List.setIfInBounds_toArray, List.set_cons_zero, List.set_cons_succ]
      refine wpAnyS_one (i := 13) rfl (by kernel_rfl) (by rfl) (fun K hK => ?_)
      go_simp
      have hu := hup _ hS.1
      (with_reducible refine hu.mono ?_); rintro e w5 ⟨va, vb', rfl, hv5, b5⟩
      clear hu
      have oa := sl_one' hv5.a.sl
      have ob := sl_one' hv5.b.sl
      replace cur := cur.call b5 hv5
      have hb := And.intro cur.below (hS.2.below b5)
      clear b5 hv5
      refine hK.out _ _ hb ?_
      replace hS := hb
      clear hK K hb
      try simp only [Act.put, List.setIfInBounds_toArray, List.set_cons_zero, List.set_cons_succ]
      refine wpAnyS_one (i := 15) rfl (by kernel_rfl) (by rfl) (fun K hK => ?_)
      have lD := (cur.ax _ rfl).1
      refine wp_storeY (cur.ax _ rfl).2 zer_length zer_length hol hnl oa ob _ _ rfl rfl rfl ?_
      have hb := And.intro cur.cut.below (hS.2.other (D := _) (Nat.ne_of_lt (Nat.lt_trans (Nat.lt_trans (Nat.lt_succ_self _) (Nat.lt_succ_self _)) lD)) (wyC wl.old wl.new va vb' wl.p.isSome wl.fits).toArray)
      refine hK.out _ _ hb ?_
      replace hS := hb
      clear hK K hb
      try simp only [Act.put, List.setIfInBounds_toArray, List.set_cons_zero, List.set_cons_succ]
      refine wpAnyS_done (by kernel_rfl) ?_ _
      go_wp2_with fail
      go_meet
      exact ⟨_, _, _, rfl, cur.cut⟩
  case rest =>
    obtain ⟨D, va, vb', rfl, hc⟩ := hcut
    clear cur0 hup hO0
    have nD : Hid (w.heap.size + 1 + 1 < D) := hc.lD
    have hL := hc.rL
    have hDo := hc.rD.old hol hnl
    have hn2 := hnd2 wc
    have hcD : Hid (CutR w (w.heap.size + 1) (w.heap.size + 1 + 1) D lst wl va vb' wc) := hc
    clear hc hnd2
    go_wp2_with (first
      | ((with_reducible refine at_load ?_); refine arr_dg.loadL hL (by rfl) hd1 _ rfl rfl ?_)
      | ((with_reducible refine at_load ?_); refine arr_dg.loadAtL hDo (by rfl) hol _ rfl rfl ?_))
    (with_reducible refine hn2.mono ?_); rintro e w3 ⟨v3, rfl, s3, b3⟩
    have hc3 := hcD.out.ext b3
    have hh2 := rhash_any k v3 t2 w3 s3.sl (by rw [htl2]; decide) hk
    clear hn2 hcD hL hDo s3
    go_wp2_with fail
    (with_reducible refine hh2.mono ?_); rintro e w4 ⟨rfl, b4⟩
    have hc4 := hc3.ext b4
    have rD4 := hc4.rD
    have rD5 := rD4.setOld hol hnl hdl2
    have b5 : Below w.heap.size w (w4.setCells D 0 (bs (hashL k t2))) := below_setCells (bs (hashL k t2)) 0 w4 hc4.below (by have := nD.out; omega)
    have rL5 : RowT 38 (w4.setCells D 0 (bs (hashL k t2))) (w.heap.size + 1 + 1) lst := (heap_setCells_other _ _ _ (by have := nD.out; omega)).trans hc4.rL
    have rR5 : RowY (w4.setCells D 0 (bs (hashL k t2))) (w.heap.size + 1) zer zer nilV nilV false false := (heap_setCells_other _ _ _ (by have := nD.out; omega)).trans hc4.rR
    have wv5 : WayV (w4.setCells D 0 (bs (hashL k t2))) va vb' { wl with old := hashL k t2 } := ⟨hdl2, hc4.wv.ln, hc4.wv.a.apart rD4 (by decide) (fun b hb => heap_setCells_other _ _ _ hb), hc4.wv.b.apart rD4 (by decide) (fun b hb => heap_setCells_other _ _ _ hb)⟩
    clear hc3 hc4 b4 b3 hh2
    go_wp2_with ((with_reducible refine at_store ?_); refine wpl_storeP rD4 hol hnl hdl2 (by decide) rfl _ _ rfl rfl rfl ?_)
    generalize World.setCells _ _ _ _ = wc at *
    have hS : Below w.heap.size w wc.drew ∧ RowT 38 wc.drew (w.heap.size + 1 + 1) lst ∧ RowY wc.drew D (hashL k t2) wl.new va vb' wl.p.isSome wl.fits := ⟨b5.drew, rL5.below (ext_drew _), rD5.ext (ext_drew _)⟩
    have rR := rR5.ext (ext_drew _)
    have wv := wv5.below (ext_drew _)
    clear b5 rL5 rD5 rR5 wv5 rD4
    refine wp_region_S (fun w' => Below w.heap.size w w' ∧ RowT 38 w' (w.heap.size + 1 + 1) lst ∧ RowY w' D (hashL k t2) wl.new va vb' wl.p.isSome wl.fits) (by kernel_rfl) ?_
    refine wpAnyS_take (i := 0) (v := ?_) hS (some 98) rfl rfl (by kernel_rfl) (by kernel_rfl) (by kernel_rfl) (fun _ _ _ h => h) ?_ ?_
    rotate_left 1
    · (refine Or.inl ⟨by rfl, ?_⟩; intro w' hw'; (try go_simp); (try rfl); done)
    try simp only [Act.put, List.setIfInBounds_toArray, List.set_cons_zero, List.set_cons_succ]
    refine wpAnyS_take (i := 1) (v := ?_) hS (some 99) rfl rfl (by kernel_rfl) (by kernel_rfl) (by kernel_rfl) (fun _ _ _ h => h) ?_ ?_
    rotate_left 1
    · (refine Or.inl ⟨by rfl, ?_⟩; intro w' hw'; (refine RowY.ex hw'.2.2 hdl2 hnl (.tmp 16) ?_ ?_ <;> rfl))
    try simp only [Act.put, List.setIfInBounds_toArray, List.set_cons_zero, List.set_cons_succ]
    refine wpAnyS_take (i := 2) (v := ?_) hS (some 100) rfl rfl (by kernel_rfl) (by kernel_rfl) (by kernel_rfl) (fun _ _ _ h => h) ?_ ?_
    rotate_left 1
    · (refine Or.inl ⟨by rfl, ?_⟩; intro w' hw'; (refine arr_dg.ex hw'.2.1 hd1 (.tmp 13) ?_ ?_ <;> rfl))
    try simp only [Act.put, List.setIfInBounds_toArray, List.set_cons_zero, List.set_cons_succ]
    refine wpAnyS_take (i := 3) (v := ?_) hS (some 101) rfl rfl (by kernel_rfl) (by kernel_rfl) (by kernel_rfl) (fun _ _ _ h => h) ?_ ?_
    rotate_left 1
    · (refine Or.inl ⟨by rfl, ?_⟩; intro w' hw'; (try go_simp); (try rfl); done)
    try simp only [Act.put, List.setIfInBounds_toArray, List.set_cons_zero, List.set_cons_succ]
    refine wpAnyS_take (i := 4) (v := ?_) hS (some 102) rfl rfl (by kernel_rfl) (by kernel_rfl) (by kernel_rfl) (fun _ _ _ h => h) ?_ ?_
    rotate_left 1
    · (refine Or.inl ⟨by rfl, ?_⟩; intro w' hw'; (refine arr_dg.exAt' (hw'.2.2.new hdl2 hnl) hnl (.tmp 101) ?_ ?_ <;> rfl))
    try simp only [Act.put, List.setIfInBounds_toArray, List.set_cons_zero, List.set_cons_succ]
    refine wpAnyS_take (i := 6) (v := ?_) hS (some 104) rfl rfl (by kernel_rfl) (by kernel_rfl) (by kernel_rfl) (fun _ _ _ h => h) ?_ ?_
    rotate_left 1
    · (refine Or.inl ⟨by rfl, ?_⟩; intro w' hw'; (try go_simp); (try rfl); done)
    try simp only [Act.put, List.setIfInBounds_toArray, List.set_cons_zero, List.set_cons_succ]
    refine wpAnyS_one (i := 5) rfl (by kernel_rfl) (by rfl) (fun K hK => ?_)
    go_simp
    (with_reducible refine (hnd _).mono ?_); rintro e w6 ⟨v6, rfl, s6, b6⟩
    have x6 : Ext wc.drew w6 := b6
    have hb : Below w.heap.size w w6 ∧ RowT 38 w6 (w.heap.size + 1 + 1) lst ∧ RowY w6 D (hashL k t2) wl.new va vb' wl.p.isSome wl.fits := ⟨Below.trans hS.1 (x6.mono hS.1.size), hS.2.1.below x6, hS.2.2.ext x6⟩
    refine hK.out _ _ hb ?_
    replace hS := hb
    clear hK K hb
    try simp only [Act.put, List.setIfInBounds_toArray, List.set_cons_zero, List.set_cons_succ]
    refine wpAnyS_one (i := 7) rfl (by kernel_rfl) (by rfl) (fun K hK => ?_)
    go_simp
    have hst := step_any k hk { wl with old := hashL k t2 } va vb' v6 (.slice A l.length c) t l w6 (wv.below x6) s6 (by rw [htl]; decide) (hl.below hS.1) hll hz
    unfold wayOf at hst
    dsimp only at hst
    (with_reducible refine hst.mono ?_); rintro e w7 ⟨va2, vb2, rfl, hv7, b7⟩
    have x7 := Ext.trans x6 b7
    have rR7 := rR.ext x7
    have hb : Below w.heap.size w w7 ∧ RowT 38 w7 (w.heap.size + 1 + 1) lst ∧ RowY w7 D (hashL k t2) wl.new va vb' wl.p.isSome wl.fits := ⟨Below.trans hS.1 (b7.mono hS.1.size), hS.2.1.below b7, hS.2.2.ext b7⟩
    clear hst
    generalize hwl : stepL k { wl with old := hashL k t2 } t l = wl2 at *
    replace hwl : Hid _ := hwl
    refine hK.out _ _ hb ?_
    replace hS := hb
    clear hK K hb
    try simp only [Act.put, List.setIfInBounds_toArray, List.set_cons_zero, List.set_cons_succ]
    refine wpAnyS_one (i := 8) rfl (by kernel_rfl) (by rfl) (fun K hK => ?_)
    refine wp_storeY rR7 zer_length zer_length hv7.lo hv7.ln (sl_one' hv7.a.sl) (sl_one' hv7.b.sl) _ _ rfl rfl rfl ?_
    have hret := (rR7.setRow wl2.old wl2.new va2 vb2 wl2.p.isSome wl2.fits).load hv7.lo hv7.ln
    have hv8 := hv7.row rR7 (by decide) (wyC wl2.old wl2.new va2 vb2 wl2.p.isSome wl2.fits).toArray
    have bz := below_setRow hS.1 (Nat.le_succ w.heap.size) (wyC wl2.old wl2.new va2 vb2 wl2.p.isSome wl2.fits).toArray
    have hb := And.intro bz (And.intro (hS.2.1.other (D := w.heap.size + 1) (by omega) (wyC wl2.old wl2.new va2 vb2 wl2.p.isSome wl2.fits).toArray) (hS.2.2.row (E := w.heap.size + 1) (by have := nD.out; omega) (wyC wl2.old wl2.new va2 vb2 wl2.p.isSome wl2.fits).toArray))
    refine hK.out _ _ hb ?_
    replace hS := hb
    clear hK K hb
    try simp only [Act.put, List.setIfInBounds_toArray, List.set_cons_zero, List.set_cons_succ]
    refine wpAnyS_done (by kernel_rfl) ?_ _
    go_wp2_with fail
    exact ret_cell (v := wayOf wl2 va2 vb2) Try.results43 rfl hret rfl (by rw [hwl.out]; exact ⟨_, _, rfl, hv8, bz⟩)
theorem last_mem (ps : List (List UInt8)) (h : 0 < ps.length) : lastL ps ∈ ps := lastL_mem h
/-- What grow of the reference does. -/
theorem rgrow_any (k : Nat) (hk : k ≤ 256) (old : List UInt8) (ol : old.length = 32) :
    ∀ (n : Nat) (vl : Value) (l : List (List UInt8)) (m : Nat) (mark : Bool) (vp : Value) (ps : List (List UInt8)) (w : World), l.length ≤ n → n ≤ 1048576 → 1 ≤ m → m ≤ l.length → (∀ z ∈ l, z.length ≤ 1048576) → SlX w vl l → SlD w vp ps →
      Calls Try.prog 43 #[.int .i64 k, vl, .int .i64 m, .bool mark, dg old, vp] w fun e w' => ∃ va vb, e = .returned (wayOf (growN k old zer lastL n l m mark ps) va vb) ∧ WayV w' va vb (growN k old zer lastL n l m mark ps) ∧ Below w.heap.size w w' := by
  intro n
  induction n with
  | zero => intro vl l m mark vp ps w h1 _ h2 h3; omega
  | succ n ih =>
    intro vl l m mark vp ps w hln hn hm1 hm2 hz hl hp
    by_cases h1 : m = l.length ∧ mark = true
    · have e : growN k old zer lastL (n + 1) l m mark ps = ⟨old, old, none, decide (ps.length = 0)⟩ := by unfold growN; rw [if_pos h1]
      rw [e]
      obtain ⟨h1, rfl⟩ := h1
      exact rgrow_full k old ol vl l m vp ps w hl hp h1
    · by_cases h0 : ps.length = 0
      · have e : growN k old zer lastL (n + 1) l m mark ps = ⟨zer, zer, none, false⟩ := by unfold growN; rw [if_neg h1, if_pos h0]
        rw [e]
        exact rgrow_none k old vl l m mark vp ps w hl hp h1 h0
      · by_cases h3 : m = l.length
        · have e : growN k old zer lastL (n + 1) l m mark ps = ⟨lastL ps, lastL ps, none, decide (ps.length = 1)⟩ := by unfold growN; rw [if_neg h1, if_neg h0, if_pos h3]
          rw [e]
          have hmk : mark = false := by
            cases mark with
            | false => rfl
            | true => exact absurd ⟨h3, rfl⟩ h1
          subst hmk
          exact rgrow_part k old vl l m vp ps w hl hp h3 (by omega)
        · have hkl := kOf_lt (n := l.length) (by omega) (by omega)
          obtain ⟨A, c, rfl, hc, hcm⟩ := hl.len
          obtain ⟨Ap, cp, e1, hcp, hcpm, _⟩ := id hp.1
          subst e1
          have hpi := hp.slice 0 (ps.length - 1) (by omega) (by omega)
          simp only [List.drop_zero, Nat.sub_zero, slA_zero] at hpi
          by_cases h2 : m ≤ kOf l.length
          · have e : growN k old zer lastL (n + 1) l m mark ps = stepL k (growN k old zer lastL n (l.take (kOf l.length)) m mark (initL ps)) (ndL (growN k old zer lastL n (l.take (kOf l.length)) m mark (initL ps)).new (lastL ps)) l := by
              conv => lhs; unfold growN
              rw [if_neg h1, if_neg h0, if_neg h3, if_pos h2]
            rw [e]
            have hL0 := hl.slice 0 (kOf l.length) (by omega) (by omega)
            simp only [List.drop_zero, Nat.sub_zero, slA_zero] at hL0
            have hok := growN_ok (k := k) (m := 1048576) (pick := lastL) ol zer_length last_mem n (l.take (kOf l.length)) m mark (initL ps) (by rw [List.length_take]; omega) (fun z h => hz z (List.mem_of_mem_take h)) (fun d hd => hp.2 d (initL_mem hd))
            exact rgrow_left k hk A Ap c cp l m (kOf l.length) mark old ol ps _ w hl (by omega) (by omega) hz hp (by omega) rfl h3 h2
              (fun w' hx => ih _ (l.take (kOf l.length)) m mark _ (initL ps) w' (by rw [List.length_take]; omega) (by omega) hm1 (by rw [List.length_take]; omega) (fun z h => hz z (List.mem_of_mem_take h)) (hL0.below hx) (hpi.below hx)) hok.new hok.old
          · have e : growN k old zer lastL (n + 1) l m mark ps =
              stepL k { growN k old zer lastL n (l.drop (kOf l.length)) (m - kOf l.length) false (initL ps) with old := hashL k (ndL (lastL ps) (growN k old zer lastL n (l.drop (kOf l.length)) (m - kOf l.length) false (initL ps)).old) } (ndL (lastL ps) (growN k old zer lastL n (l.drop (kOf l.length)) (m - kOf l.length) false (initL ps)).new) l := by
              conv => lhs; unfold growN
              rw [if_neg h1, if_neg h0, if_neg h3, if_neg h2]
              rfl
            rw [e]
            have hR0 := hl.slice (kOf l.length) l.length (by omega) (Nat.le_refl _)
            rw [List.take_of_length_le (by simp)] at hR0
            have hok := growN_ok (k := k) (m := 1048576) (pick := lastL) ol zer_length last_mem n (l.drop (kOf l.length)) (m - kOf l.length) false (initL ps) (by rw [List.length_drop]; omega) (fun z h => hz z (List.mem_of_mem_drop h)) (fun d hd => hp.2 d (initL_mem hd))
            refine rgrow_right k hk A Ap c cp l m (kOf l.length) mark old ol ps _ w hl (by omega) (by omega) hz hp (by omega) rfl h3 (by omega) hm2 ?_ hok.new hok.old
            intro w' hx
            have := ih _ (l.drop (kOf l.length)) (m - kOf l.length) false _ (initL ps) w' (by rw [List.length_drop]; omega) (by omega) (by omega) (by rw [List.length_drop]; omega) (fun z h => hz z (List.mem_of_mem_drop h)) (hR0.below hx) (hpi.below hx)
            rw [show ((m - kOf l.length : Nat) : Int) = (m : Int) - (kOf l.length : Nat) by omega] at this
            exact this
end Go.Proofs.Ytnpbapefjbfndaa
