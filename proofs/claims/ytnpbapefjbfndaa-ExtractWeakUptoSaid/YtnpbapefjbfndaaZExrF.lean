/- grow of the reference: its ends (walks). -/
import Derived.Test.YtnpbapefjbfndaaZExrE
set_option linter.unusedVariables false
set_option linter.unusedSimpArgs false
set_option maxRecDepth 10000
namespace Go.Proofs.Ytnpbapefjbfndaa
open Go.RowKit
attribute [local go_sem high] dg_cells guard_dg wy_cells rs_l rs_lh rs_lhm rs_h rs_hm rs_all

set_option maxHeartbeats 8000000 in
theorem rgrow_full (k : Nat) (old : List UInt8) (ol : old.length = 32) (vl : Value) (l : List (List UInt8)) (m : Nat) (vp : Value) (ps : List (List UInt8)) (w : World) (hl : SlX w vl l) (hp : SlD w vp ps) (hm : m = l.length) :
    Calls Try.prog 43 #[.int .i64 k, vl, .int .i64 m, .bool true, dg old, vp] w fun e w' => ∃ va vb, e = .returned (wayOf ⟨old, old, none, decide (ps.length = 0)⟩ va vb) ∧ WayV w' va vb ⟨old, old, none, decide (ps.length = 0)⟩ ∧ Below w.heap.size w w' := by
  subst hm
  obtain ⟨h3, h4, b2, z2⟩ := alloc2 (w := w) (o1 := .cells (bs old).toArray 38 (0, 0)) (o2 := .cells (wyC zer zer nilV nilV false false).toArray 72 (0, 0)) rfl
  have hO : RowT 38 _ w.heap.size old := h3
  have hR : RowY _ (w.heap.size + 1) zer zer nilV nilV false false := h4
  obtain ⟨A, c, rfl, hc, hcm⟩ := hl.len
  obtain ⟨Ap, cp, rfl, hcp, hcpm, _⟩ := id hp.1
  have hq : ((ps.length : Int) == 0) = decide (ps.length = 0) := by rw [Bool.eq_iff_iff]; simp
  generalize decide (ps.length = 0) = d at *
  have bz : Below w.heap.size w _ := below_setRow b2 (Nat.le_succ w.heap.size) (wyC old old nilV nilV false d).toArray
  have hret := (hR.setRow old old nilV nilV false d).load ol ol
  clear h3 h4 b2 z2
  change Calls _ _ #[_, _, _, _, .agg (bs old).toArray, _] _ _
  go_enter Try.func43, Try.ntmps43
  go_wp2_with (first
    | ((with_reducible refine at_load ?_); refine arr_dg.loadL hO (by rfl) ol _ rfl rfl ?_)
    | ((with_reducible refine at_build ?_); refine wpl_build3 ol _ _ _ d rfl rfl rfl rfl rfl ?_)
    | ((with_reducible refine at_store ?_); refine wpl_storeY hR zer_length zer_length ol ol rfl rfl rfl _ _ rfl rfl rfl ?_))
  exact ret_cell (v := wayOf ⟨old, old, none, d⟩ nilV nilV) Try.results43 rfl hret rfl ⟨_, _, rfl, WayV.none _ ol ol d, bz⟩
set_option maxHeartbeats 8000000 in
theorem rgrow_none1 (k : Nat) (old : List UInt8) (vl : Value) (l : List (List UInt8)) (m : Nat) (vp : Value) (ps : List (List UInt8)) (w : World) (hl : SlX w vl l) (hp : SlD w vp ps) (hm : m = l.length) (h0 : ps.length = 0) :
    Calls Try.prog 43 #[.int .i64 k, vl, .int .i64 m, .bool false, dg old, vp] w fun e w' => ∃ va vb, e = .returned (wayOf ⟨zer, zer, none, false⟩ va vb) ∧ WayV w' va vb ⟨zer, zer, none, false⟩ ∧ Below w.heap.size w w' := by
  subst hm
  obtain ⟨h3, h4, b2, z2⟩ := alloc2 (w := w) (o1 := .cells (bs old).toArray 38 (0, 0)) (o2 := .cells (wyC zer zer nilV nilV false false).toArray 72 (0, 0)) rfl
  have hR : RowY _ (w.heap.size + 1) zer zer nilV nilV false false := h4
  obtain ⟨A, c, rfl, hc, hcm⟩ := hl.len
  obtain ⟨Ap, cp, rfl, hcp, hcpm, _⟩ := id hp.1
  rw [h0] at *
  have bz : Below w.heap.size w _ := below_setRow b2 (Nat.le_succ w.heap.size) (wyC zer zer nilV nilV false false).toArray
  have hret := (hR.setRow zer zer nilV nilV false false).load zer_length zer_length
  clear h3 h4 b2 z2
  change Calls _ _ #[_, _, _, _, .agg (bs old).toArray, _] _ _
  go_enter Try.func43, Try.ntmps43
  go_wp2_with (first
    | ((with_reducible refine at_build ?_); refine wpl_build0 rfl rfl ?_)
    | ((with_reducible refine at_store ?_); refine wpl_storeY hR zer_length zer_length zer_length zer_length rfl rfl rfl _ _ rfl rfl rfl ?_))
  exact ret_cell (v := wayOf ⟨zer, zer, none, false⟩ nilV nilV) Try.results43 rfl hret rfl ⟨_, _, rfl, WayV.none _ zer_length zer_length false, bz⟩
set_option maxHeartbeats 8000000 in
theorem rgrow_none2 (k : Nat) (old : List UInt8) (vl : Value) (l : List (List UInt8)) (m : Nat) (mark : Bool) (vp : Value) (ps : List (List UInt8)) (w : World) (hl : SlX w vl l) (hp : SlD w vp ps) (hm : m ≠ l.length) (h0 : ps.length = 0) :
    Calls Try.prog 43 #[.int .i64 k, vl, .int .i64 m, .bool mark, dg old, vp] w fun e w' => ∃ va vb, e = .returned (wayOf ⟨zer, zer, none, false⟩ va vb) ∧ WayV w' va vb ⟨zer, zer, none, false⟩ ∧ Below w.heap.size w w' := by
  obtain ⟨h3, h4, b2, z2⟩ := alloc2 (w := w) (o1 := .cells (bs old).toArray 38 (0, 0)) (o2 := .cells (wyC zer zer nilV nilV false false).toArray 72 (0, 0)) rfl
  have hR : RowY _ (w.heap.size + 1) zer zer nilV nilV false false := h4
  obtain ⟨A, c, rfl, hc, hcm⟩ := hl.len
  obtain ⟨Ap, cp, rfl, hcp, hcpm, _⟩ := id hp.1
  rw [h0] at *
  have hq : ((m : Int) == l.length) = false := by rw [beq_eq_false_iff_ne]; omega
  have bz : Below w.heap.size w _ := below_setRow b2 (Nat.le_succ w.heap.size) (wyC zer zer nilV nilV false false).toArray
  have hret := (hR.setRow zer zer nilV nilV false false).load zer_length zer_length
  clear h3 h4 b2 z2
  change Calls _ _ #[_, _, _, _, .agg (bs old).toArray, _] _ _
  go_enter Try.func43, Try.ntmps43
  go_wp2_with (first
    | ((with_reducible refine at_build ?_); refine wpl_build0 rfl rfl ?_)
    | ((with_reducible refine at_store ?_); refine wpl_storeY hR zer_length zer_length zer_length zer_length rfl rfl rfl _ _ rfl rfl rfl ?_))
  exact ret_cell (v := wayOf ⟨zer, zer, none, false⟩ nilV nilV) Try.results43 rfl hret rfl ⟨_, _, rfl, WayV.none _ zer_length zer_length false, bz⟩
theorem rgrow_none (k : Nat) (old : List UInt8) (vl : Value) (l : List (List UInt8)) (m : Nat) (mark : Bool) (vp : Value) (ps : List (List UInt8)) (w : World) (hl : SlX w vl l) (hp : SlD w vp ps) (hm : ¬ (m = l.length ∧ mark = true)) (h0 : ps.length = 0) :
    Calls Try.prog 43 #[.int .i64 k, vl, .int .i64 m, .bool mark, dg old, vp] w fun e w' => ∃ va vb, e = .returned (wayOf ⟨zer, zer, none, false⟩ va vb) ∧ WayV w' va vb ⟨zer, zer, none, false⟩ ∧ Below w.heap.size w w' := by
  by_cases h : m = l.length
  · have : mark = false := by cases mark with
      | false => rfl
      | true => exact absurd ⟨h, rfl⟩ hm
    subst this
    exact rgrow_none1 k old vl l m vp ps w hl hp h h0
  · exact rgrow_none2 k old vl l m mark vp ps w hl hp h h0
/-- The last of the path lies in a variable behind the two first. -/
theorem allocsL (w : World) (old lst : List UInt8) (X : World) (hX : ((w.alloc (.cells (bs old).toArray 38 (0, 0))).alloc (.cells (wyC zer zer nilV nilV false false).toArray 72 (0, 0))).alloc (.cells (bs zer).toArray 38 (0, 0)) = X) :
    RowT 38 X (w.heap.size + 1 + 1) zer ∧ RowT 38 (X.setRow (w.heap.size + 1 + 1) (bs lst).toArray) w.heap.size old ∧ RowY (X.setRow (w.heap.size + 1 + 1) (bs lst).toArray) (w.heap.size + 1) zer zer nilV nilV false false ∧ RowT 38 (X.setRow (w.heap.size + 1 + 1) (bs lst).toArray) (w.heap.size + 1 + 1) lst ∧ Below w.heap.size w (X.setRow (w.heap.size + 1 + 1) (bs lst).toArray) := by
  obtain ⟨h1, h2, h3, b, z⟩ := allocs3 hX
  have r1 : RowT 38 X w.heap.size old := h1
  have r2 : RowY X (w.heap.size + 1) zer zer nilV nilV false false := h2
  have r3 : RowT 38 X (w.heap.size + 1 + 1) zer := h3
  exact ⟨r3, r1.other (by omega) _, r2.row (by omega) _, r3.setRow lst, below_setRow b (by omega) _⟩
set_option maxHeartbeats 8000000 in
theorem rgrow_part (k : Nat) (old : List UInt8) (vl : Value) (l : List (List UInt8)) (m : Nat) (vp : Value) (ps : List (List UInt8)) (w : World) (hl : SlX w vl l) (hp : SlD w vp ps) (hm : m = l.length) (h0 : 0 < ps.length) :
    Calls Try.prog 43 #[.int .i64 k, vl, .int .i64 m, .bool false, dg old, vp] w fun e w' => ∃ va vb, e = .returned (wayOf ⟨lastL ps, lastL ps, none, decide (ps.length = 1)⟩ va vb) ∧ WayV w' va vb ⟨lastL ps, lastL ps, none, decide (ps.length = 1)⟩ ∧ Below w.heap.size w w' := by
  subst hm
  obtain ⟨hL0, hO, hR, hL, b2⟩ := allocsL w old (lastL ps) _ rfl
  obtain ⟨A, c, rfl, hc, hcm⟩ := hl.len
  obtain ⟨Ap, cp, e1, hcp, hcpm, _⟩ := id hp.1
  subst e1
  obtain ⟨ad, rfl, hrd⟩ := hp.get (i := ps.length - 1) (by omega)
  have hd1 := hp.len32 (i := ps.length - 1) (by omega)
  have hlast : lastL ps = ps.getD (ps.length - 1) [] := rfl
  rw [← hlast] at hrd hd1
  clear hlast
  have hrd0 := hrd.below' (Ext.trans (ext_alloc w (.cells (bs old).toArray 38 (0, 0))) (ext_alloc _ (.cells (wyC zer zer nilV nilV false false).toArray 72 (0, 0))))
  generalize lastL ps = lst at *
  have hq : ((ps.length : Int) == 1) = decide (ps.length = 1) := by rw [Bool.eq_iff_iff, beq_iff_eq, decide_eq_true_iff]; omega
  have hq2 : ((ps.length : Int) == 0) = false := by rw [beq_eq_false_iff_ne]; omega
  have j0 : (0 : Int) ≤ (ps.length : Int) - 1 := by omega
  have j1 : (ps.length : Int) - 1 < ps.length := by omega
  have j2 : ((ps.length : Int) - 1).toNat = ps.length - 1 := by omega
  have j4 : (1 : Int) ≤ ps.length := by omega
  generalize decide (ps.length = 1) = d at *
  have bz : Below w.heap.size w _ := below_setRow b2 (Nat.le_succ w.heap.size) (wyC lst lst nilV nilV false d).toArray
  have hret := (hR.setRow lst lst nilV nilV false d).load hd1 hd1
  clear b2 hO hrd
  change Calls _ _ #[_, _, _, _, .agg (bs old).toArray, _] _ _
  go_enter Try.func43, Try.ntmps43
  go_wp2_with (first
    | ((with_reducible refine at_load ?_); refine arr_dg.loadAtL hrd0 (by rfl) hd1 _ rfl rfl ?_)
    | ((with_reducible refine at_load ?_); refine arr_dg.loadL hL (by rfl) hd1 _ rfl rfl ?_)
    | ((with_reducible refine at_build ?_); refine wpl_build3 hd1 _ _ _ d rfl rfl rfl rfl rfl ?_)
    | ((with_reducible refine at_store ?_); refine arr_dg.storeL hL0 zer_length rfl hd1 _ _ rfl rfl rfl ?_)
    | ((with_reducible refine at_store ?_); refine wpl_storeY hR zer_length zer_length hd1 hd1 rfl rfl rfl _ _ rfl rfl rfl ?_))
  exact ret_cell (v := wayOf ⟨lst, lst, none, d⟩ nilV nilV) Try.results43 rfl hret rfl ⟨_, _, rfl, WayV.none _ hd1 hd1 d, bz⟩
end Go.Proofs.Ytnpbapefjbfndaa
