/- Root of a range (walk). -/
import Derived.Test.YtcaaeimcieooiaaRngI
import Derived.Test.YtcaaeimcieooiaaMerS
import Derived.Test.YtcaaeimcieooiaaRngG
set_option linter.unusedVariables false
set_option linter.unusedSimpArgs false
namespace Go.Proofs.Ytcaaeimcieooiaa
open Go.RowKit Go.Shelf
attribute [local go_sem] Oper.semAt_some

set_option maxRecDepth 10000 in
set_option maxHeartbeats 2000000 in
theorem backward_any (A : Option Addr) (n c : Nat) (w : World) : Calls Try.prog 27 #[.slice A n c] w fun e w' =>
    e = .returned (.func (.func 35) #[] #[.pointer (some ⟨w.heap.size, 0, none⟩)]) ∧ w' = w.alloc (.cells #[.slice A n c] 30) := by
  go_enter Try.func27, Try.ntmps27
  go_wp2_with fail
  go_ret
  exact ⟨rfl, rfl⟩
/-- The head behind some rounds. -/
def headP (pre : List Pk) : List UInt8 := pre.foldl (fun h p => if h.length = 0 then p.1.2 else nodeL p.1.2 h) []
theorem headP_snoc (pre : List Pk) (x : Pk) : headP (pre ++ [x]) = if (headP pre).length = 0 then x.1.2 else nodeL x.1.2 (headP pre) := by
  unfold headP; rw [List.foldl_append]; rfl
theorem headP_length : ∀ pre : List Pk, (headP pre).length = if pre.length = 0 then 0 else 32 := by
  have key : ∀ (pre : List Pk) (h : List UInt8), h.length = 0 ∨ h.length = 32 → (pre.foldl (fun h p => if h.length = 0 then p.1.2 else nodeL p.1.2 h) h).length = if pre.length = 0 then h.length else 32 := by
    intro pre
    induction pre with
    | nil => intro h _; rfl
    | cons x pre ih =>
      intro h hh
      rw [List.foldl_cons]
      have hx : (if h.length = 0 then x.1.2 else nodeL x.1.2 h).length = 32 := by
        split
        · exact x.2
        · exact nodeL_length _ _
      rw [ih _ (.inr hx), hx]
      simp
  intro pre
  exact key pre [] (.inl rfl)
/-- What lies in the variable 'head'. -/
def rowH (pre : List Pk) : List UInt8 := if pre.length = 0 then zer else headP pre
theorem rowH_length (pre : List Pk) : (rowH pre).length = 32 := by
  unfold rowH; split
  · exact zer_length
  · rw [headP_length, if_neg ‹_›]
theorem rowH_first {pre : List Pk} (x : Pk) (h : pre.length = 0) : rowH (pre ++ [x]) = x.1.2 := by
  unfold rowH; rw [if_neg (by simp), headP_snoc, if_pos (by rw [headP_length, if_pos h])]
theorem rowH_next {pre : List Pk} (x : Pk) (h : pre.length ≠ 0) : rowH (pre ++ [x]) = nodeL x.1.2 (rowH pre) := by
  unfold rowH; rw [if_neg (by simp), headP_snoc, if_neg (by rw [headP_length, if_neg h]; decide), if_neg h]
theorem head_back (ds : List (List UInt8)) (h32 : All32 ds) : ∀ k, k < ds.length → rowH (backP (pkOf ds h32) ds.length (k + 1)) = ((ds.drop (ds.length - 1 - k)).take k).foldr nodeL (ds.getD (ds.length - 1) [])
  | 0, hk => by
    rw [List.take_zero, List.foldr_nil]
    show rowH ([] ++ [pkOf ds h32 (ds.length - 1 - 0)]) = _
    rw [rowH_first _ rfl, pkOf_get ds h32 (by omega)]; rfl
  | k + 1, hk => by
    have ih := head_back ds h32 k (by omega)
    show rowH (backP (pkOf ds h32) ds.length (k + 1) ++ [pkOf ds h32 (ds.length - 1 - (k + 1))]) = _
    rw [rowH_next _ (by rw [backP_length]; omega), ih, pkOf_get ds h32 (by omega)]
    have e : ds.drop (ds.length - 1 - (k + 1)) = ds.getD (ds.length - 1 - (k + 1)) [] :: ds.drop (ds.length - 1 - k) := by
      rw [List.drop_eq_getElem_cons (by omega), show ds.length - 1 - (k + 1) + 1 = ds.length - 1 - k by omega]
      simp [show ds.length - 1 - (k + 1) < ds.length by omega]
    rw [e, List.take_succ_cons, List.foldr_cons]
theorem head_all (ds : List (List UInt8)) (h32 : All32 ds) (h0 : ds.length ≠ 0) : rowH (backP (pkOf ds h32) ds.length ds.length) = headL ds := by
  obtain ⟨k, hk⟩ : ∃ k, ds.length = k + 1 := ⟨ds.length - 1, by omega⟩
  have := head_back ds h32 k (by omega)
  rw [← hk] at this
  rw [this, hk, show k + 1 - 1 - k = 0 by omega, List.drop_zero]
  unfold headL
  rw [if_neg h0, hk]; rfl
theorem res_cell {P : Program} {fn : Func} {a : Array Value} {w : World} {x : Tmp} {t : TypeId} {ad : Addr} {v : Value} (hr : fn.results = #[.cell x t]) (hx : a.getD x undef = .pointer (some ad))
    (hl : (loadVar t ad).run P w = .ok v w) : (results fn a).run P w = .ok v w := by
  unfold results
  rw [hr]
  rw [Array.getD_eq_getD_getElem?] at hx
  simp [hx, asAddr, Sem.run_bind, hl]
theorem rowT_own {β : Type} (B : Nat) (t : TypeId) (f : β → List UInt8) : Own (fun s W => RowT t W B (f s)) := fun s X Y row hs hg hrow =>
  (hg.block B (Array.getElem?_eq_some_iff.1 hs).1 (fun e' => by obtain ⟨o, ho, hc⟩ := hrow B e'.symm; rw [show X.heap[B]? = _ from hs] at ho; cases ho; cases hc)).trans hs

theorem Arr8.store_newI {F : Fence} {m : Nat} {ops : Array Oper} {rest : List Oper} {o : Oper} {a : Act} {w : World} {Q : Exit → Act → World → Prop} {t : TypeId} {n : Nat} (T : Arr8 t n) {x z : List UInt8} (hz : z.length = n) (hg : o.guard = none) (hx : x.length = n) (p y : Operand) (ho : o.op = .store t p y) (hp : a.eval p = .pointer (some ⟨w.heap.size, 0, none⟩)) (hy : a.eval y = dg x)
    (h : wpListIn F m Try.prog ops Q rest (a.put o.dst undef) (w.alloc (.cells (bs x).toArray t (0, 0)))) : wpListIn F m Try.prog ops Q (o :: rest) a (w.alloc (.cells (bs z).toArray t (0, 0))) := by
  refine T.storeI (heap_alloc_new _ _) hz hg hx p y ho hp hy ?_
  rw [setRow_alloc]; exact h
/-- What a round keeps: the old world, and the slice's own variable. -/
def KpB (z : Nat) (W W' : World) : Prop := Below z W W' ∧ W'.heap[z + 1 + 1 + 1]? = W.heap[z + 1 + 1 + 1]?
theorem KpB.refl (z : Nat) (W : World) : KpB z W W := ⟨Below.refl _ _, rfl⟩
theorem KpB.trans {z : Nat} {A B C : World} (h : KpB z A B) (k : KpB z B C) : KpB z A C := ⟨h.1.trans k.1, k.2.trans h.2⟩

set_option maxRecDepth 100000 in
set_option maxHeartbeats 8000000 in
theorem root_at {w : World} {p n : Nat} {v : Value} {ds : List (List UInt8)} (h : RgAt w p n v true) (hv : SlD w v ds) (hl : ds.length ≤ 65536) :
    Calls Try.prog 17 #[ptr p] w fun e w' => e = .returned (dg (headL ds)) ∧ Below w.heap.size w w' := by
  have h32 := hv.2
  have c := h.c1.1
  obtain ⟨⟨A, c0, rfl, _⟩, _⟩ := id hv
  refine (callsIn_wide (n := 9)).1 ?_
  have h1 : 1 ≤ 9 := by omega
  refine callsIn_of_wp_marks Try.func17 rfl trivial ?_ rfl
  simp only [Try.ntmps17, List.size_toArray, List.length_cons, List.length_nil, Nat.reduceAdd, Nat.reduceSub, Array.replicate_succ, Array.replicate_zero, List.push_toArray, List.append_toArray, List.nil_append, List.cons_append]
  gi_wp2
  generalize hX : World.alloc (World.alloc (World.alloc w _) _) _ = X
  obtain ⟨r2, r3, r4, bX, zX⟩ := alloc3 hX
  have hRX := h.below bX
  have hvX := hv.below bX
  have cX := hRX.c1.1
  clear hX
  refine ⟨trivial, ?_⟩
  refine (callsIn_wide.2 (none_at hRX)).mono ?_; rintro e w1 ⟨rfl, rfl⟩
  gi_wp2
  refine ⟨trivial, ?_⟩
  refine (callsIn_wide.2 (backward_any _ _ _ _)).mono ?_; rintro e w1 ⟨rfl, rfl⟩
  gi_wp2
  generalize hz : w.heap.size = z at *
  have bB := Boxed.new X 30 (.slice A ds.length c0)
  rw [zX] at bB
  have b0 : Below z w (X.alloc (.cells #[.slice A ds.length c0] 30)) := bX.trans ((ext_alloc X _).mono (by omega))
  have e0 := ext_alloc X (.cells #[.slice A ds.length c0] 30)
  obtain ⟨W0, hW0⟩ : ∃ W0, X.alloc (.cells #[.slice A ds.length c0] 30) = W0 := ⟨_, rfl⟩
  have zW : W0.heap.size = z + 4 := by rw [← hW0, size_alloc, zX]
  rw [hW0] at bB b0 e0 ⊢
  have s2 : RowT 29 W0 z zer := (e0.block _ (by omega)).trans r2
  have s3 : RowT 29 W0 (z + 1) zer := (e0.block _ (by omega)).trans r3
  have s4 : Boxed W0 (z + 1 + 1) 4 (.bool true) := (e0.block _ (by omega)).trans r4
  clear hW0 r2 r3 r4 e0 hRX hvX cX
  refine wpIn_rangeFunc_ownH rfl h1 (gf := 35) (lb := #[.pointer (some ⟨z + 1 + 1 + 1, 0, none⟩)]) rfl trivial (enters_of Try.func35 (by kernel_rfl) rfl)
    (back_stops (9 - 1) (by omega) (z + 1 + 1 + 1) (.slice A ds.length c0) ds h32 hl (KpB z) (KpB.refl z) KpB.trans W0
      (fun W W' h1 h2 => (World.cell?_of_block (w := W) (a := ⟨z + 1 + 1 + 1, 0, none⟩) h2.2).trans ((h1.cell (p := ⟨z + 1 + 1 + 1, 0, none⟩) (by show z + 1 + 1 + 1 < _; omega)).trans bB.cell))
      (fun W W' h1 h2 => hv.below (by rw [hz]; exact b0.trans ((h1.mono (by omega)).trans h2.1)))) KpB.trans
    (fun W l o o' hle hl h3 h4 => ⟨belowK_b (w := W0) (by omega) W l o o' hle hl h3 h4, World.putObj_heap_other (by omega)⟩) (Below.refl _ _) (fun _ => rfl)
    (fun pre W => ((RowT 29 W (z + 1) (rowH pre) ∧ Boxed W (z + 1 + 1) 4 (.bool (decide (pre.length = 0)))) ∧ RowT 29 W z zer) ∧ Below z W0 W)
    (fun _ _ _ => False)
    (OwnFrom.and (OwnFrom.and (OwnFrom.and (Own.from (rowT_own (z + 1) 29 rowH) _) (Own.from (boxed_own (z + 1 + 1) 4 (fun pre : List Pk => Value.bool (decide (pre.length = 0)))) _)) (Own.from (rowT_own z 29 (fun _ => zer)) _)) (ownFrom_below (by omega) (by omega)))
    (fun _ _ _ _ _ hs _ _ => hs)
    ⟨⟨⟨s3, s4⟩, s2⟩, Below.refl _ _⟩
    (fun x a' W => ∃ Bx, z + 1 + 1 + 1 < Bx ∧ RowT 29 W Bx x.1.2 ∧ a' = { tmps := #[ptr p, undef, .pointer (some ⟨z, 0, none⟩), .pointer (some ⟨z + 1, 0, none⟩), .pointer (some ⟨z + 1 + 1, 0, none⟩), undef, .pointer (some ⟨Bx, 0, none⟩), ptr p, .bool false, .bool true, ptr p, .pointer (some ⟨p, 0, none⟩), .pointer (some ⟨p, 1, none⟩), .slice A ds.length c0, .func (.func 35) #[] #[.pointer (some ⟨z + 1 + 1 + 1, 0, none⟩)], .int .i64 (x.1.1 : Int), dg x.1.2, undef, undef, undef, undef, undef, undef, undef, undef], defers := [] })
    (fun x a' _ X Y row hs hg hr => by obtain ⟨Bx, h1, h2, h3⟩ := hs; exact ⟨Bx, h1, rowT_own Bx 29 (fun (_ : Unit) => x.1.2) () X Y row h2 hg (fun r e => (hr r e).2), h3⟩)
    ?assign ?body ?done ?stop
  case assign =>
    rintro l pre x W K ⟨⟨⟨rH, bF⟩, rZ⟩, hB⟩ hK
    have sz := hB.size
    have hx := x.2
    unfold encP
    have e1 := ext_alloc W (.cells (bs x.1.2).toArray 29 (0, 0))
    have hnew : RowT 29 (W.alloc (.cells (bs x.1.2).toArray 29 (0, 0))) W.heap.size x.1.2 := heap_alloc_new _ _
    gi_wp2_with ((with_reducible refine at_storeI ?_); refine arr_dg.store_newI zer_length rfl hx _ _ rfl rfl rfl ?_)
    exact hK _ _ ((KeepsOthers.alloc _ _).from _) ⟨(Below.refl _ W).alloc (by omega) _, e1.block _ (by omega)⟩ ⟨⟨⟨rH.below e1, bF.alloc _⟩, rZ.below e1⟩, hB.alloc (by omega) _⟩ ⟨W.heap.size, by omega, hnew, rfl⟩
  case body =>
    rintro l pre x a' W hlW ⟨r, hr⟩ ⟨⟨⟨rH, bF⟩, rZ⟩, hB⟩ ⟨Bx, hBx, rX, rfl⟩ hlt
    have sz := hB.size
    have hx := x.2
    have hH := rowH_length pre
    have cF := bF.cell
    have hlr := (Array.getElem?_eq_some_iff.1 hr).1
    by_cases hp0 : pre.length = 0
    · rw [decide_eq_true hp0] at cF
      have hrow := rowH_first x hp0
      have bF2 : Boxed (W.setRow (z + 1) (bs x.1.2).toArray) (z + 1 + 1) 4 (.bool (decide (pre.length = 0))) := (heap_setRow_other _ _ _ _ (by omega)).trans bF
      rw [decide_eq_true hp0] at bF2
      have cF2 := bF2.cell
      have fF2 := bF2.frozen
      have fF := bF.frozen
      gi_wp2_with (first
        | ((with_reducible refine at_loadI ?_); refine arr_dg.loadI rX rfl hx _ rfl rfl ?_)
        | ((with_reducible refine at_storeI ?_); refine arr_dg.storeI rH hH rfl hx _ _ rfl rfl rfl ?_))
      have bu : But (fun k => k = z + 1 ∨ k = z + 1 + 1) W ((W.setRow (z + 1) (bs x.1.2).toArray).setCell ⟨z + 1 + 1, 0, none⟩ (.bool false)) := ((But.refl _ W).setRow (.inl rfl) _).setCell (.inr rfl) _
      refine ⟨⟨bu.size, fun k o hk h1 _ => (bu.block k (Array.getElem?_eq_some_iff.1 h1).1 (by omega)).trans h1⟩, ⟨bu.below (by omega) (by omega), bu.block _ (by omega) (by omega)⟩, ⟨⟨?_, ?_⟩, ?_⟩, hB.trans (bu.below (by omega) (by omega))⟩
      · rw [hrow]
        exact (Below.heap_setCell _ _ _ _ (by show z + 1 ≠ z + 1 + 1; omega)).trans (rH.setRow x.1.2)
      · rw [decide_eq_false (by simp)]
        exact bF2.set _
      · exact (bu.block z (by omega) (by omega)).trans rZ
    · rw [decide_eq_false hp0] at cF
      have hrow := rowH_next x hp0
      have hnl := nodeL_length x.1.2 (rowH pre)
      gi_wp2_with (first
        | ((with_reducible refine at_loadI ?_); refine arr_dg.loadI rX rfl hx _ rfl rfl ?_)
        | ((with_reducible refine at_loadI ?_); refine arr_dg.loadI rH rfl hH _ rfl rfl ?_))
      refine ⟨trivial, ?_⟩
      refine (CallsIn.inRound l (callsIn_wide.2 (node_any _ _ hx hH W))).mono ?_; rintro e w5 ⟨rfl, b5⟩
      have rH5 := rH.below b5
      gi_wp2_with (first
        | ((with_reducible refine at_storeI ?_); refine arr_dg.storeI rH5 hH rfl hnl _ _ rfl rfl rfl ?_))
      have bu : But (fun k => k = z + 1 ∨ k = z + 1 + 1) W (w5.setRow (z + 1) (bs (nodeL x.1.2 (rowH pre))).toArray) := (But.of_ext b5).setRow (.inl rfl) _
      refine ⟨⟨bu.size, fun k o hk h1 _ => (bu.block k (Array.getElem?_eq_some_iff.1 h1).1 (by omega)).trans h1⟩, ⟨bu.below (by omega) (by omega), bu.block _ (by omega) (by omega)⟩, ⟨⟨?_, ?_⟩, ?_⟩, hB.trans (bu.below (by omega) (by omega))⟩
      · rw [hrow]
        exact rH5.setRow _
      · rw [decide_eq_false (by simp)]
        rw [decide_eq_false hp0] at bF
        exact (heap_setRow_other _ _ _ _ (by omega)).trans ((b5.block _ bF.lt).trans bF)
      · exact (bu.block z (by omega) (by omega)).trans rZ
  case done =>
    rintro D ys W hD rfl ⟨⟨⟨rH, bF⟩, rZ⟩, hB⟩ hK
    have cF := bF.cell
    have hlD := (Array.getElem?_eq_some_iff.1 hK).1
    rw [backP_length] at cF
    by_cases h0 : ds.length = 0
    · rw [decide_eq_true h0] at cF
      have hd : ds = [] := List.eq_nil_of_length_eq_zero h0
      have hrl : (rootL []).length = 32 := rootL_length 0 [] (Nat.le_refl _) (by simp) (fun d hd => by cases hd)
      gi_wp2
      refine ⟨trivial, ?_⟩
      refine (callsIn_wide.2 (root_any 0 _ [] W (Nat.le_refl _) (by omega) (slD_nil W))).mono ?_; rintro e w5 ⟨rfl, b5⟩
      have rZ5 := rZ.below b5
      have hK5 := (b5.block _ hlD).trans hK
      gi_wp2_with ((with_reducible refine at_storeI ?_); refine arr_dg.storeI rZ5 zer_length rfl hrl _ _ rfl rfl rfl ?_)
      have rZ6 := rZ5.setRow (rootL [])
      have hK6 : (w5.setRow z (bs (rootL [])).toArray).heap[D]? = _ := (heap_setRow_other _ _ _ _ (by omega)).trans hK5
      refine ⟨by simp, .inl ⟨_, _, rfl, run_takeDeferred hK6, ?_⟩⟩
      have rZ7 : RowT 29 ((w5.setRow z (bs (rootL [])).toArray).putObj D (.deferred none)) z (rootL []) := (World.putObj_heap_other (by omega)).trans rZ6
      refine ⟨_, res_cell Try.results17 rfl (arr_dg.loadVar rZ7 hrl), ?_, ?_⟩
      · rw [hd]; rfl
      · have b6 : Below z w (w5.setRow z (bs (rootL [])).toArray) := below_setRow ((b0.trans hB).trans (b5.mono (by have := hB.size; omega))) (Nat.le_refl _) _
        rw [hz]
        exact b6.trans (belowK_b (w := W0) (by omega) _ D _ _ hD hK6 rfl rfl)
    · rw [decide_eq_false h0] at cF
      have hH := rowH_length (backP (pkOf ds h32) ds.length ds.length)
      have hall := head_all ds h32 h0
      generalize rowH (backP (pkOf ds h32) ds.length ds.length) = hh at *
      gi_wp2_with (first
        | ((with_reducible refine at_loadI ?_); refine arr_dg.loadI rH rfl hH _ rfl rfl ?_)
        | ((with_reducible refine at_storeI ?_); refine arr_dg.storeI rZ zer_length rfl hH _ _ rfl rfl rfl ?_))
      have rZ6 := rZ.setRow hh
      have hK6 : (W.setRow z (bs hh).toArray).heap[D]? = _ := (heap_setRow_other _ _ _ _ (by omega)).trans hK
      refine ⟨by simp, .inl ⟨_, _, rfl, run_takeDeferred hK6, ?_⟩⟩
      have rZ7 : RowT 29 ((W.setRow z (bs hh).toArray).putObj D (.deferred none)) z hh := (World.putObj_heap_other (by omega)).trans rZ6
      refine ⟨_, res_cell Try.results17 rfl (arr_dg.loadVar rZ7 hH), ?_, ?_⟩
      · rw [hall]
      · have b6 : Below z w (W.setRow z (bs hh).toArray) := below_setRow (b0.trans hB) (Nat.le_refl _) _
        rw [hz]
        exact b6.trans (belowK_b (w := W0) (by omega) _ D _ _ hD hK6 rfl rfl)
  case stop =>
    rintro D c pre W _ _ h _
    exact h.elim
set_option maxRecDepth 100000 in
set_option maxHeartbeats 2000000 in
/-- Root where there is no range. -/
theorem root_none (P0 : Option Addr) (w : World) (hn : ∀ w', Ext w w' → Calls Try.prog 21 #[.pointer P0] w' fun e w'' => e = .returned (.bool true) ∧ w' = w'') :
    Calls Try.prog 17 #[.pointer P0] w fun e w' => e = .returned (dg (sha [])) ∧ Below w.heap.size w w' := by
  have hrl : (rootL []).length = 32 := rootL_length 0 [] (Nat.le_refl _) (by simp) (fun d hd => by cases hd)
  go_enter Try.func17, Try.ntmps17
  go_wp2_with fail
  generalize hX : World.alloc (World.alloc (World.alloc w _) _) _ = X
  obtain ⟨r2, r3, r4, bX, zX⟩ := alloc3 hX
  have r2' : RowT 29 X w.heap.size zer := r2
  have cF : X.cell? ⟨w.heap.size + 1 + 1, 0, none⟩ = some (.bool true) := Boxed.cell (t := 4) r4
  clear hX r2 r3
  refine (hn _ bX).mono ?_; rintro e w1 ⟨rfl, rfl⟩
  go_wp2_with fail
  refine (root_any 0 _ [] X (Nat.le_refl _) (by omega) (slD_nil X)).mono ?_; rintro e w5 ⟨rfl, b5⟩
  have r5 := r2'.below b5
  have hret := arr_dg.loadVar (r5.setRow (rootL [])) hrl
  have bz := below_setRow (Below.trans bX (b5.mono bX.size)) (Nat.le_refl _) (bs (rootL [])).toArray
  go_wp2_with ((with_reducible refine at_store ?_); refine arr_dg.storeL r5 zer_length rfl hrl _ _ rfl rfl rfl ?_)
  exact ret_cell (v := dg (rootL [])) Try.results17 rfl hret rfl ⟨rfl, bz⟩
theorem rg_root_nil (w : World) : Calls Try.prog 17 #[.pointer none] w fun e w' => e = .returned (dg (sha [])) ∧ Below w.heap.size w w' := root_none none w fun w' _ => none_nil w'
theorem rg_root_zero {w : World} {p n : Nat} {v : Value} (h : RgAt w p n v false) : Calls Try.prog 17 #[ptr p] w fun e w' => e = .returned (dg (sha [])) ∧ Below w.heap.size w w' := root_none _ w fun w' b => none_at (h.below b)
end Go.Proofs.Ytcaaeimcieooiaa
