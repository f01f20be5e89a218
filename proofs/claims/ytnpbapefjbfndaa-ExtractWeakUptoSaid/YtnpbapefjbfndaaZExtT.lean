/- The finder: met, found (walks). -/
import Derived.Test.YtnpbapefjbfndaaZExtN
import Derived.Test.YtnpbapefjbfndaaZXp
set_option linter.unusedVariables false
set_option linter.unusedSimpArgs false
set_option maxRecDepth 10000
namespace Go.Proofs.Ytnpbapefjbfndaa
open Go.RowKit
attribute [local go_sem high] dg_cells guard_dg

/-- Below B nothing has turned, nor at any block that was there, but for F and G. -/
structure But (B F G : Nat) (w w' : World) : Prop where
  below : Below B w w'
  other : ∀ b, b < w.heap.size → b ≠ F → b ≠ G → w'.heap[b]? = w.heap[b]?
theorem But.refl (B F G : Nat) (w : World) : But B F G w w := ⟨Below.refl _ _, fun _ _ _ _ => rfl⟩
theorem But.of {B F G : Nat} {w w' : World} (h : Ext w w') (hB : B ≤ w.heap.size) : But B F G w w' := ⟨h.mono hB, fun b hb _ _ => h.block b hb⟩
theorem But.trans {B F G : Nat} {a b c : World} (h : But B F G a b) (k : But B F G b c) : But B F G a c :=
  ⟨Below.trans h.below k.below, fun i hi hf hg => (k.other i (Nat.lt_of_lt_of_le hi h.below.size) hf hg).trans (h.other i hi hf hg)⟩
theorem But.setCell {B F G : Nat} {a w : World} (h : But B F G a w) {D j : Nat} (hD : D = F ∨ D = G) (hB : B ≤ D) (u : Value) : But B F G a (w.setCell ⟨D, j, none⟩ u) :=
  ⟨below_setCell h.below hB u, fun b hb hf hg => (Below.heap_setCell _ _ _ _ (by rcases hD with rfl | rfl <;> assumption)).trans (h.other b hb hf hg)⟩
theorem But.wide {B F G : Nat} {w w' : World} (h : But B F F w w') : But B F G w w' := ⟨h.below, fun b hb hf _ => h.other b hb hf hf⟩
theorem PR.but {B F G : Nat} {t : TypeId} {w w' : World} {D : Nat} {u v : Value} (h : PR t w D u v) (hb : But B F G w w') (hf : D ≠ F) (hg : D ≠ G) : PR t w' D u v := (hb.other D (Array.getElem?_eq_some_iff.1 h).1 hf hg).trans h
theorem PR.lt {t : TypeId} {w : World} {D : Nat} {u v : Value} (h : PR t w D u v) : D < w.heap.size := (Array.getElem?_eq_some_iff.1 h).1
theorem RowT.but {B F G : Nat} {t : TypeId} {w w' : World} {D : Nat} {xs : List UInt8} (h : RowT t w D xs) (hb : But B F G w w') (hf : D ≠ F) (hg : D ≠ G) : RowT t w' D xs := (hb.other D h.lt hf hg).trans h
/-- The finder lies at F. -/
def FindAt (w : World) (F g : Nat) (o : Option (List UInt8 × List UInt8)) : Prop :=
  match o with
  | none => PR 65 w F (hv g) (.pointer none)
  | some q => ∃ P va vb, PR 65 w F (hv g) (.pointer (some ⟨P, 0, none⟩)) ∧ PR 30 w P va vb ∧ OwB 0 w va q.1 ∧ OwB 0 w vb q.2
theorem FindAt.below {w w' : World} {F g : Nat} {o : Option (List UInt8 × List UInt8)} (h : FindAt w F g o) (hb : Ext w w') : FindAt w' F g o := by
  cases o with
  | none => exact PR.below h hb
  | some q => obtain ⟨P, va, vb, h1, h2, h3, h4⟩ := h; exact ⟨P, va, vb, h1.below hb, h2.below hb, h3.below hb, h4.below hb⟩

set_option maxHeartbeats 4000000 in
theorem met_no (F g k : Nat) (vt vl : Value) (t : List UInt8) (zs : List (List UInt8)) (w : World) (hk : k ≤ 256) (hF : PR 65 w F (hv g) (.pointer none)) (hg : HvAt w g k)
    (ht : OwB 0 w vt t) (htl : t.length ≤ 1073741824) (hl : SlX w vl zs) (hzl : zs.length ≤ 1048576) (hz : ∀ z ∈ zs, z.length ≤ 1048576) (hm : mayL k t (textL k zs) = false) :
    Calls Try.prog 37 #[.pointer (some ⟨F, 0, none⟩), vt, vl] w fun e w' => e = .returned (dg (hashL k t)) ∧ PR 65 w' F (hv g) (.pointer none) ∧ Below w.heap.size w w' := by
  have r0 : RowT 38 (w.alloc (.cells (bs zer).toArray 38 (0, 0))) w.heap.size zer := heap_alloc_new _ _
  have b0 := ext_alloc w (.cells (bs zer).toArray 38 (0, 0))
  have htx := text_own g k hk 1048576 vl zs _ hzl (Nat.le_refl _) hz (hl.below b0) (hg.below b0)
  have lx : (textL k zs).length ≤ 1073741824 := by have := textL_length (k := k) (m := 1048576) zs (by omega) hz; omega
  have c0 := fun o => (hF.below (ext_alloc w o)).c0.1
  have hdl := hashL_length k t
  have hFl : Hid (F < w.heap.size) := hF.lt
  obtain ⟨A, c, rfl, _⟩ := id ht.sl
  generalize textL k zs = x at *
  clear hl hz
  unfold hv at htx c0
  go_enter Try.func37, Try.ntmps37
  go_wp2_with fail
  refine htx.mono ?_; rintro e w2 ⟨v2, rfl, s2, b2⟩
  clear c0 htx
  have x2 := Ext.trans b0 b2
  obtain ⟨A2, c2, rfl, _⟩ := id s2.sl
  have e3 := ext_alloc w2 (.cells #[.slice A t.length c, .slice A2 x.length c2] 30)
  have x3 := Ext.trans x2 e3
  have l1 := fun w' => @pair_0 w2 w' 30 (.slice A t.length c) (.slice A2 x.length c2)
  have l2 := fun w' => @pair_1 w2 w' 30 (.slice A t.length c) (.slice A2 x.length c2)
  have s3 := s2.below e3
  have t3 := ht.below x3
  have r3 := (r0.below b2).below e3
  have hF3 := hF.below x3
  have g3 := hg.below x3
  have z2 : Hid (w.heap.size ≤ w2.heap.size) := x2.size
  clear s2 r0 b2 hF b0 x2 e3
  go_wp2_with fail
  generalize World.alloc w2 _ = W at *
  have f0 := fun w' (h : Ext W w') => (hF3.below h).c0.1
  have f1 := fun w' (h : Ext W w') => (hF3.below h).c1.1
  have km := fun w' (h : Ext W w') => may_any g k (.slice A t.length c) (.slice A2 x.length c2) t x w' hk htl lx (t3.below h).sl (s3.below h).sl (g3.below h)
  rw [hm] at km
  have hcur : Below W.heap.size W W := Below.refl _ _
  have e0 := Ext.refl W
  unfold hv at f0 km
  refine wp_region_E (by kernel_rfl) ?_
  replace hcur := below_via hcur (ext_drew _)
  replace e0 := Ext.trans e0 (ext_drew _)
  refine wpAnyE_take (i := 0) (v := ?_) (some 16) rfl rfl (by kernel_rfl) (by kernel_rfl) (by kernel_rfl) (fun _ _ _ h => h) ?_ ?_
  rotate_left 1
  · (refine Or.inl ⟨by rfl, ?_⟩; intro w' hw'; have hq := below_via hcur hw'; have hq_e0 := Ext.trans e0 hw'; have hz_l1 := l1 _ hq_e0; have hz_l2 := l2 _ hq_e0; have hz_f0 := f0 _ hq_e0; have hz_f1 := f1 _ hq_e0; (try go_simp); (try rfl); done)
  try simp only [Act.put, List.setIfInBounds_toArray, List.set_cons_zero, List.set_cons_succ]
  refine wpAnyE_take (i := 1) (v := ?_) (some 17) rfl rfl (by kernel_rfl) (by kernel_rfl) (by kernel_rfl) (fun _ _ _ h => h) ?_ ?_
  rotate_left 1
  · (refine Or.inl ⟨by rfl, ?_⟩; intro w' hw'; have hq := below_via hcur hw'; have hq_e0 := Ext.trans e0 hw'; have hz_l1 := l1 _ hq_e0; have hz_l2 := l2 _ hq_e0; have hz_f0 := f0 _ hq_e0; have hz_f1 := f1 _ hq_e0; (try go_simp); (try rfl); done)
  try simp only [Act.put, List.setIfInBounds_toArray, List.set_cons_zero, List.set_cons_succ]
  refine wpAnyE_take (i := 2) (v := ?_) (some 18) rfl rfl (by kernel_rfl) (by kernel_rfl) (by kernel_rfl) (fun _ _ _ h => h) ?_ ?_
  rotate_left 1
  · (refine Or.inl ⟨by rfl, ?_⟩; intro w' hw'; have hq := below_via hcur hw'; have hq_e0 := Ext.trans e0 hw'; have hz_l1 := l1 _ hq_e0; have hz_l2 := l2 _ hq_e0; have hz_f0 := f0 _ hq_e0; have hz_f1 := f1 _ hq_e0; (try go_simp); (try rfl); done)
  try simp only [Act.put, List.setIfInBounds_toArray, List.set_cons_zero, List.set_cons_succ]
  refine wpAnyE_take (i := 3) (v := ?_) (some 19) rfl rfl (by kernel_rfl) (by kernel_rfl) (by kernel_rfl) (fun _ _ _ h => h) ?_ ?_
  rotate_left 1
  · (refine Or.inl ⟨by rfl, ?_⟩; intro w' hw'; have hq := below_via hcur hw'; have hq_e0 := Ext.trans e0 hw'; have hz_l1 := l1 _ hq_e0; have hz_l2 := l2 _ hq_e0; have hz_f0 := f0 _ hq_e0; have hz_f1 := f1 _ hq_e0; (try go_simp); (try rfl); done)
  try simp only [Act.put, List.setIfInBounds_toArray, List.set_cons_zero, List.set_cons_succ]
  refine wpAnyE_take (i := 4) (v := ?_) (some 20) rfl rfl (by kernel_rfl) (by kernel_rfl) (by kernel_rfl) (fun _ _ _ h => h) ?_ ?_
  rotate_left 1
  · (refine Or.inl ⟨by rfl, ?_⟩; intro w' hw'; have hq := below_via hcur hw'; have hq_e0 := Ext.trans e0 hw'; have hz_l1 := l1 _ hq_e0; have hz_l2 := l2 _ hq_e0; have hz_f0 := f0 _ hq_e0; have hz_f1 := f1 _ hq_e0; (try go_simp); (try rfl); done)
  try simp only [Act.put, List.setIfInBounds_toArray, List.set_cons_zero, List.set_cons_succ]
  refine wpAnyE_take (i := 5) (v := ?_) (some 21) rfl rfl (by kernel_rfl) (by kernel_rfl) (by kernel_rfl) (fun _ _ _ h => h) ?_ ?_
  rotate_left 1
  · (refine Or.inl ⟨by rfl, ?_⟩; intro w' hw'; have hq := below_via hcur hw'; have hq_e0 := Ext.trans e0 hw'; have hz_l1 := l1 _ hq_e0; have hz_l2 := l2 _ hq_e0; have hz_f0 := f0 _ hq_e0; have hz_f1 := f1 _ hq_e0; (try go_simp); (try rfl); done)
  try simp only [Act.put, List.setIfInBounds_toArray, List.set_cons_zero, List.set_cons_succ]
  refine wpAnyE_take (i := 6) (v := ?_) (some 22) rfl rfl (by kernel_rfl) (by kernel_rfl) (by kernel_rfl) (fun _ _ _ h => h) ?_ ?_
  rotate_left 1
  · (refine Or.inl ⟨by rfl, ?_⟩; intro w' hw'; have hq := below_via hcur hw'; have hq_e0 := Ext.trans e0 hw'; have hz_l1 := l1 _ hq_e0; have hz_l2 := l2 _ hq_e0; have hz_f0 := f0 _ hq_e0; have hz_f1 := f1 _ hq_e0; (try go_simp); (try rfl); done)
  try simp only [Act.put, List.setIfInBounds_toArray, List.set_cons_zero, List.set_cons_succ]
  refine wpAnyE_take (i := 7) (v := ?_) (some 23) rfl rfl (by kernel_rfl) (by kernel_rfl) (by kernel_rfl) (fun _ _ _ h => h) ?_ ?_
  rotate_left 1
  · (refine Or.inl ⟨by rfl, ?_⟩; intro w' hw'; have hq := below_via hcur hw'; have hq_e0 := Ext.trans e0 hw'; have hz_l1 := l1 _ hq_e0; have hz_l2 := l2 _ hq_e0; have hz_f0 := f0 _ hq_e0; have hz_f1 := f1 _ hq_e0; (try go_simp); (try rfl); done)
  try simp only [Act.put, List.setIfInBounds_toArray, List.set_cons_zero, List.set_cons_succ]
  refine wpAnyE_take (i := 8) (v := ?_) (some 24) rfl rfl (by kernel_rfl) (by kernel_rfl) (by kernel_rfl) (fun _ _ _ h => h) ?_ ?_
  rotate_left 1
  · (refine Or.inl ⟨by rfl, ?_⟩; intro w' hw'; have hq := below_via hcur hw'; have hq_e0 := Ext.trans e0 hw'; have hz_l1 := l1 _ hq_e0; have hz_l2 := l2 _ hq_e0; have hz_f0 := f0 _ hq_e0; have hz_f1 := f1 _ hq_e0; (try go_simp); (try rfl); done)
  try simp only [Act.put, List.setIfInBounds_toArray, List.set_cons_zero, List.set_cons_succ]
  refine wpAnyE_take (i := 9) (v := ?_) (some 25) rfl rfl (by kernel_rfl) (by kernel_rfl) (by kernel_rfl) (fun _ _ _ h => h) ?_ ?_
  rotate_left 1
  · (refine Or.inl ⟨by rfl, ?_⟩; intro w' hw'; have hq := below_via hcur hw'; have hq_e0 := Ext.trans e0 hw'; have hz_l1 := l1 _ hq_e0; have hz_l2 := l2 _ hq_e0; have hz_f0 := f0 _ hq_e0; have hz_f1 := f1 _ hq_e0; (try go_simp); (try rfl); done)
  try simp only [Act.put, List.setIfInBounds_toArray, List.set_cons_zero, List.set_cons_succ]
  refine wpAnyE_take (i := 10) (v := ?_) (some 26) rfl rfl (by kernel_rfl) (by kernel_rfl) (by kernel_rfl) (fun _ _ _ h => h) ?_ ?_
  rotate_left 1
  · (refine Or.inl ⟨by rfl, ?_⟩; intro w' hw'; have hq := below_via hcur hw'; have hq_e0 := Ext.trans e0 hw'; have hz_l1 := l1 _ hq_e0; have hz_l2 := l2 _ hq_e0; have hz_f0 := f0 _ hq_e0; have hz_f1 := f1 _ hq_e0; (try go_simp); (try rfl); done)
  try simp only [Act.put, List.setIfInBounds_toArray, List.set_cons_zero, List.set_cons_succ]
  refine wpAnyE_one (i := 11) rfl (by kernel_rfl) (by rfl) (fun K hK => ?_)
  go_simp
  (with_reducible refine (km _ e0).mono ?_); rintro e w5 ⟨rfl, hb⟩
  refine hK.out _ _ hb ?_
  replace hcur := below_via hcur hb; clear hK K
  replace e0 := Ext.trans e0 hb
  try simp only [Act.put, List.setIfInBounds_toArray, List.set_cons_zero, List.set_cons_succ]
  refine wpAnyE_take (i := 12) (v := ?_) (some 28) rfl rfl (by kernel_rfl) (by kernel_rfl) (by kernel_rfl) (fun _ _ _ h => h) ?_ ?_
  rotate_left 1
  · (refine Or.inl ⟨by rfl, ?_⟩; intro w' hw'; have hq := below_via hcur hw'; have hq_e0 := Ext.trans e0 hw'; have hz_l1 := l1 _ hq_e0; have hz_l2 := l2 _ hq_e0; have hz_f0 := f0 _ hq_e0; have hz_f1 := f1 _ hq_e0; (try go_simp); (try rfl); done)
  try simp only [Act.put, List.setIfInBounds_toArray, List.set_cons_zero, List.set_cons_succ]
  refine wpAnyE_done (by kernel_rfl) ?_ _
  have r5 := r3.below hcur
  have hF5 := hF3.below hcur
  have c5 := f0 _ hcur
  have hh := hash1_any g k (.slice A t.length c) t w5 (t3.below hcur).sl htl hk (g3.below hcur)
  have x5 := Ext.trans x3 hcur
  clear km f0 f1 l1 l2
  generalize hdd : hashL k t = hd at *
  replace hdd : Hid _ := hdd
  go_wp2_with fail
  (with_reducible refine hh.mono ?_); rintro e w6 ⟨rfl, b6⟩
  have r6 := r5.below b6
  have x6 := Ext.trans x5 b6
  have hF6 := hF5.below b6
  have hret := arr_dg.loadVar (r6.setRow hd) hdl
  have bz := below_setRow x6 (Nat.le_refl _) (bs hd).toArray
  have hF7 : PR 65 (w6.setRow w.heap.size (bs hd).toArray) F (hv g) (.pointer none) := (heap_setRow_other w6 w.heap.size F (bs hd).toArray (by have := hFl.out; omega)).trans hF6
  go_wp2_with ((with_reducible refine at_store ?_); refine arr_dg.storeL r6 zer_length rfl hdl _ _ rfl rfl rfl ?_)
  exact ret_cell (v := dg hd) Try.results37 rfl hret rfl ⟨by rw [hdd.out], hF7, bz⟩
theorem RowT.other_cell {t : TypeId} {w : World} {B D j : Nat} {xs : List UInt8} (h : RowT t w B xs) (hne : B ≠ D) (u : Value) : RowT t (w.setCell ⟨D, j, none⟩ u) B xs := (Below.heap_setCell _ _ _ _ hne).trans h
theorem PR.other_cell {t : TypeId} {w : World} {B D j : Nat} {x y : Value} (h : PR t w B x y) (hne : B ≠ D) (u : Value) : PR t (w.setCell ⟨D, j, none⟩ u) B x y := (Below.heap_setCell _ _ _ _ hne).trans h
theorem HvAt.other_cell {w : World} {g k D j : Nat} (h : HvAt w g k) (hne : (⟨D, j, none⟩ : Addr) ≠ ⟨g, 0, none⟩) (u : Value) : HvAt (w.setCell ⟨D, j, none⟩ u) g k := (World.cell?_setCell_other (h := hne) ..).trans h
theorem OwB.apart {B D : Nat} {w w' : World} {v : Value} {xs : List UInt8} {cs : Array Value} {t : TypeId} {fr : Nat × Nat} (h : OwB B w v xs) (hD : w.heap[D]? = some (.cells cs t fr)) (ht : t ≠ 5) (hk : ∀ b, b ≠ D → w'.heap[b]? = w.heap[b]?) : OwB B w' v xs := by
  refine ⟨h.1, ?_⟩
  rcases h.2 with hn | ⟨g, cap, cur, e, hb, hg, rest⟩
  · exact .inl hn
  · refine .inr ⟨g, cap, cur, e, hb, ?_, rest⟩
    rw [hk g (fun e => by subst e; rw [hD] at hg; injection hg with hg; injection hg with _ h2; exact ht h2)]
    exact hg
theorem OwB.cell_apart {B D j : Nat} {w : World} {v : Value} {xs : List UInt8} {cs : Array Value} {t : TypeId} {fr : Nat × Nat} (h : OwB B w v xs) (hD : w.heap[D]? = some (.cells cs t fr)) (ht : t ≠ 5) (u : Value) : OwB B (w.setCell ⟨D, j, none⟩ u) v xs :=
  h.apart hD ht fun b hb => Below.heap_setCell _ _ _ _ hb
theorem OwB.row_apart {B D : Nat} {w : World} {v : Value} {xs : List UInt8} {cs : Array Value} {t : TypeId} {fr : Nat × Nat} (h : OwB B w v xs) (hD : w.heap[D]? = some (.cells cs t fr)) (ht : t ≠ 5) (ys : Array Value) : OwB B (w.setRow D ys) v xs :=
  h.apart hD ht fun b hb => heap_setRow_other _ _ _ _ hb
theorem PR.row_other {t : TypeId} {w : World} {B D : Nat} {x y : Value} (h : PR t w B x y) (hne : B ≠ D) (cs : Array Value) : PR t (w.setRow D cs) B x y := (heap_setRow_other w D B cs hne).trans h
theorem But.setRow {B F G : Nat} {a w : World} (h : But B F G a w) {D : Nat} (hD : a.heap.size ≤ D) (hB : B ≤ D) (cs : Array Value) : But B F G a (w.setRow D cs) :=
  ⟨below_setRow h.below hB cs, fun b hb hf hg => (heap_setRow_other w D b cs (by omega)).trans (h.other b hb hf hg)⟩
/-- A digest is laid into a variable: the finder stands. -/
theorem FindAt.row {w : World} {F g D : Nat} {o : Option (List UInt8 × List UInt8)} {xs : List UInt8} (h : FindAt w F g o) (r : RowT 38 w D xs) (ys : Array Value) : FindAt (w.setRow D ys) F g o := by
  have ne : ∀ {t u v P}, PR t w P u v → t ≠ 38 → P ≠ D := fun hp ht e => by
    subst e; unfold PR at hp; unfold RowT at r; rw [r] at hp; injection hp with hp; injection hp with _ h2; exact ht h2.symm
  cases o with
  | none => exact PR.row_other h (ne h (by decide)) _
  | some q =>
    obtain ⟨P, va, vb, h1, h2, h3, h4⟩ := h
    exact ⟨P, va, vb, h1.row_other (ne h1 (by decide)) _, h2.row_other (ne h2 (by decide)) _, h3.row_apart r (by decide) _, h4.row_apart r (by decide) _⟩
/-- The end of met: the head is laid into the result. -/
theorem find_end {w w6 : World} {F g P : Nat} {va vb : Value} {t x : List UInt8} (hFl : F < w.heap.size) (hP : PR 30 w6 P va vb) (hF : PR 65 w6 F (hv g) (.pointer (some ⟨P, 0, none⟩))) (ht : OwB 0 w6 va t) (hx : OwB 0 w6 vb x)
    (hb : But F F F w w6) (r : RowT 38 w6 w.heap.size zer) (ys : List UInt8) : FindAt (w6.setRow w.heap.size (bs ys).toArray) F g (some (t, x)) ∧ But F F F w (w6.setRow w.heap.size (bs ys).toArray) := by
  have h : FindAt w6 F g (some (t, x)) := ⟨P, va, vb, hF, hP, ht, hx⟩
  exact ⟨h.row r _, hb.setRow (Nat.le_refl _) (by omega) _⟩
set_option maxHeartbeats 4000000 in
theorem met_yes (F g k : Nat) (vt vl : Value) (t : List UInt8) (zs : List (List UInt8)) (w : World) (hk : k ≤ 256) (hF : PR 65 w F (hv g) (.pointer none)) (hg : HvAt w g k)
    (ht : OwB 0 w vt t) (htl : t.length ≤ 1073741824) (hl : SlX w vl zs) (hzl : zs.length ≤ 1048576) (hz : ∀ z ∈ zs, z.length ≤ 1048576) (hm : mayL k t (textL k zs) = true) :
    Calls Try.prog 37 #[.pointer (some ⟨F, 0, none⟩), vt, vl] w fun e w' => e = .returned (dg (hashL k t)) ∧ FindAt w' F g (some (t, textL k zs)) ∧ But F F F w w' := by
  have r0 : RowT 38 (w.alloc (.cells (bs zer).toArray 38 (0, 0))) w.heap.size zer := heap_alloc_new _ _
  have b0 := ext_alloc w (.cells (bs zer).toArray 38 (0, 0))
  have htx := text_own g k hk 1048576 vl zs _ hzl (Nat.le_refl _) hz (hl.below b0) (hg.below b0)
  have lx : (textL k zs).length ≤ 1073741824 := by have := textL_length (k := k) (m := 1048576) zs (by omega) hz; omega
  have c0 := fun o => (hF.below (ext_alloc w o)).c0.1
  have hdl := hashL_length k t
  have hFl : Hid (F < w.heap.size) := hF.lt
  obtain ⟨A, c, rfl, _⟩ := id ht.sl
  generalize textL k zs = x at *
  clear hl hz
  unfold hv at htx c0
  go_enter Try.func37, Try.ntmps37
  go_wp2_with fail
  refine htx.mono ?_; rintro e w2 ⟨v2, rfl, s2, b2⟩
  clear c0 htx
  have x2 := Ext.trans b0 b2
  obtain ⟨A2, c2, rfl, _⟩ := id s2.sl
  have e3 := ext_alloc w2 (.cells #[.slice A t.length c, .slice A2 x.length c2] 30)
  have x3 := Ext.trans x2 e3
  have l1 := fun w' => @pair_0 w2 w' 30 (.slice A t.length c) (.slice A2 x.length c2)
  have l2 := fun w' => @pair_1 w2 w' 30 (.slice A t.length c) (.slice A2 x.length c2)
  have s3 := s2.below e3
  have t3 := ht.below x3
  have r3 := (r0.below b2).below e3
  have hF3 := hF.below x3
  have hP3 : PR 30 (w2.alloc (.cells #[.slice A t.length c, .slice A2 x.length c2] 30)) w2.heap.size (.slice A t.length c) (.slice A2 x.length c2) := heap_alloc_new _ _
  have g3 := hg.below x3
  have z2 : Hid (w.heap.size ≤ w2.heap.size) := x2.size
  clear s2 r0 b2 hF b0 x2 e3
  go_wp2_with fail
  have hPl := hP3.lt
  generalize World.alloc w2 _ = W at *
  have f0 := fun w' (h : Ext W w') => (hF3.below h).c0.1
  have f1 := fun w' (h : Ext W w') => (hF3.below h).c1.1
  have km := fun w' (h : Ext W w') => may_any g k (.slice A t.length c) (.slice A2 x.length c2) t x w' hk htl lx (t3.below h).sl (s3.below h).sl (g3.below h)
  rw [hm] at km
  have hcur : Below W.heap.size W W := Below.refl _ _
  have e0 := Ext.refl W
  unfold hv at f0 km
  refine wp_region_E (by kernel_rfl) ?_
  replace hcur := below_via hcur (ext_drew _)
  replace e0 := Ext.trans e0 (ext_drew _)
  refine wpAnyE_take (i := 0) (v := ?_) (some 16) rfl rfl (by kernel_rfl) (by kernel_rfl) (by kernel_rfl) (fun _ _ _ h => h) ?_ ?_
  rotate_left 1
  · (refine Or.inl ⟨by rfl, ?_⟩; intro w' hw'; have hq := below_via hcur hw'; have hq_e0 := Ext.trans e0 hw'; have hz_l1 := l1 _ hq_e0; have hz_l2 := l2 _ hq_e0; have hz_f0 := f0 _ hq_e0; have hz_f1 := f1 _ hq_e0; (try go_simp); (try rfl); done)
  try simp only [Act.put, List.setIfInBounds_toArray, List.set_cons_zero, List.set_cons_succ]
  refine wpAnyE_take (i := 1) (v := ?_) (some 17) rfl rfl (by kernel_rfl) (by kernel_rfl) (by kernel_rfl) (fun _ _ _ h => h) ?_ ?_
  rotate_left 1
  · (refine Or.inl ⟨by rfl, ?_⟩; intro w' hw'; have hq := below_via hcur hw'; have hq_e0 := Ext.trans e0 hw'; have hz_l1 := l1 _ hq_e0; have hz_l2 := l2 _ hq_e0; have hz_f0 := f0 _ hq_e0; have hz_f1 := f1 _ hq_e0; (try go_simp); (try rfl); done)
  try simp only [Act.put, List.setIfInBounds_toArray, List.set_cons_zero, List.set_cons_succ]
  refine wpAnyE_take (i := 2) (v := ?_) (some 18) rfl rfl (by kernel_rfl) (by kernel_rfl) (by kernel_rfl) (fun _ _ _ h => h) ?_ ?_
  rotate_left 1
  · (refine Or.inl ⟨by rfl, ?_⟩; intro w' hw'; have hq := below_via hcur hw'; have hq_e0 := Ext.trans e0 hw'; have hz_l1 := l1 _ hq_e0; have hz_l2 := l2 _ hq_e0; have hz_f0 := f0 _ hq_e0; have hz_f1 := f1 _ hq_e0; (try go_simp); (try rfl); done)
  try simp only [Act.put, List.setIfInBounds_toArray, List.set_cons_zero, List.set_cons_succ]
  refine wpAnyE_take (i := 3) (v := ?_) (some 19) rfl rfl (by kernel_rfl) (by kernel_rfl) (by kernel_rfl) (fun _ _ _ h => h) ?_ ?_
  rotate_left 1
  · (refine Or.inl ⟨by rfl, ?_⟩; intro w' hw'; have hq := below_via hcur hw'; have hq_e0 := Ext.trans e0 hw'; have hz_l1 := l1 _ hq_e0; have hz_l2 := l2 _ hq_e0; have hz_f0 := f0 _ hq_e0; have hz_f1 := f1 _ hq_e0; (try go_simp); (try rfl); done)
  try simp only [Act.put, List.setIfInBounds_toArray, List.set_cons_zero, List.set_cons_succ]
  refine wpAnyE_take (i := 4) (v := ?_) (some 20) rfl rfl (by kernel_rfl) (by kernel_rfl) (by kernel_rfl) (fun _ _ _ h => h) ?_ ?_
  rotate_left 1
  · (refine Or.inl ⟨by rfl, ?_⟩; intro w' hw'; have hq := below_via hcur hw'; have hq_e0 := Ext.trans e0 hw'; have hz_l1 := l1 _ hq_e0; have hz_l2 := l2 _ hq_e0; have hz_f0 := f0 _ hq_e0; have hz_f1 := f1 _ hq_e0; (try go_simp); (try rfl); done)
  try simp only [Act.put, List.setIfInBounds_toArray, List.set_cons_zero, List.set_cons_succ]
  refine wpAnyE_take (i := 5) (v := ?_) (some 21) rfl rfl (by kernel_rfl) (by kernel_rfl) (by kernel_rfl) (fun _ _ _ h => h) ?_ ?_
  rotate_left 1
  · (refine Or.inl ⟨by rfl, ?_⟩; intro w' hw'; have hq := below_via hcur hw'; have hq_e0 := Ext.trans e0 hw'; have hz_l1 := l1 _ hq_e0; have hz_l2 := l2 _ hq_e0; have hz_f0 := f0 _ hq_e0; have hz_f1 := f1 _ hq_e0; (try go_simp); (try rfl); done)
  try simp only [Act.put, List.setIfInBounds_toArray, List.set_cons_zero, List.set_cons_succ]
  refine wpAnyE_take (i := 6) (v := ?_) (some 22) rfl rfl (by kernel_rfl) (by kernel_rfl) (by kernel_rfl) (fun _ _ _ h => h) ?_ ?_
  rotate_left 1
  · (refine Or.inl ⟨by rfl, ?_⟩; intro w' hw'; have hq := below_via hcur hw'; have hq_e0 := Ext.trans e0 hw'; have hz_l1 := l1 _ hq_e0; have hz_l2 := l2 _ hq_e0; have hz_f0 := f0 _ hq_e0; have hz_f1 := f1 _ hq_e0; (try go_simp); (try rfl); done)
  try simp only [Act.put, List.setIfInBounds_toArray, List.set_cons_zero, List.set_cons_succ]
  refine wpAnyE_take (i := 7) (v := ?_) (some 23) rfl rfl (by kernel_rfl) (by kernel_rfl) (by kernel_rfl) (fun _ _ _ h => h) ?_ ?_
  rotate_left 1
  · (refine Or.inl ⟨by rfl, ?_⟩; intro w' hw'; have hq := below_via hcur hw'; have hq_e0 := Ext.trans e0 hw'; have hz_l1 := l1 _ hq_e0; have hz_l2 := l2 _ hq_e0; have hz_f0 := f0 _ hq_e0; have hz_f1 := f1 _ hq_e0; (try go_simp); (try rfl); done)
  try simp only [Act.put, List.setIfInBounds_toArray, List.set_cons_zero, List.set_cons_succ]
  refine wpAnyE_take (i := 8) (v := ?_) (some 24) rfl rfl (by kernel_rfl) (by kernel_rfl) (by kernel_rfl) (fun _ _ _ h => h) ?_ ?_
  rotate_left 1
  · (refine Or.inl ⟨by rfl, ?_⟩; intro w' hw'; have hq := below_via hcur hw'; have hq_e0 := Ext.trans e0 hw'; have hz_l1 := l1 _ hq_e0; have hz_l2 := l2 _ hq_e0; have hz_f0 := f0 _ hq_e0; have hz_f1 := f1 _ hq_e0; (try go_simp); (try rfl); done)
  try simp only [Act.put, List.setIfInBounds_toArray, List.set_cons_zero, List.set_cons_succ]
  refine wpAnyE_take (i := 9) (v := ?_) (some 25) rfl rfl (by kernel_rfl) (by kernel_rfl) (by kernel_rfl) (fun _ _ _ h => h) ?_ ?_
  rotate_left 1
  · (refine Or.inl ⟨by rfl, ?_⟩; intro w' hw'; have hq := below_via hcur hw'; have hq_e0 := Ext.trans e0 hw'; have hz_l1 := l1 _ hq_e0; have hz_l2 := l2 _ hq_e0; have hz_f0 := f0 _ hq_e0; have hz_f1 := f1 _ hq_e0; (try go_simp); (try rfl); done)
  try simp only [Act.put, List.setIfInBounds_toArray, List.set_cons_zero, List.set_cons_succ]
  refine wpAnyE_take (i := 10) (v := ?_) (some 26) rfl rfl (by kernel_rfl) (by kernel_rfl) (by kernel_rfl) (fun _ _ _ h => h) ?_ ?_
  rotate_left 1
  · (refine Or.inl ⟨by rfl, ?_⟩; intro w' hw'; have hq := below_via hcur hw'; have hq_e0 := Ext.trans e0 hw'; have hz_l1 := l1 _ hq_e0; have hz_l2 := l2 _ hq_e0; have hz_f0 := f0 _ hq_e0; have hz_f1 := f1 _ hq_e0; (try go_simp); (try rfl); done)
  try simp only [Act.put, List.setIfInBounds_toArray, List.set_cons_zero, List.set_cons_succ]
  refine wpAnyE_one (i := 11) rfl (by kernel_rfl) (by rfl) (fun K hK => ?_)
  go_simp
  (with_reducible refine (km _ e0).mono ?_); rintro e w5 ⟨rfl, hb⟩
  refine hK.out _ _ hb ?_
  replace hcur := below_via hcur hb; clear hK K
  replace e0 := Ext.trans e0 hb
  try simp only [Act.put, List.setIfInBounds_toArray, List.set_cons_zero, List.set_cons_succ]
  refine wpAnyE_take (i := 12) (v := ?_) (some 28) rfl rfl (by kernel_rfl) (by kernel_rfl) (by kernel_rfl) (fun _ _ _ h => h) ?_ ?_
  rotate_left 1
  · (refine Or.inl ⟨by rfl, ?_⟩; intro w' hw'; have hq := below_via hcur hw'; have hq_e0 := Ext.trans e0 hw'; have hz_l1 := l1 _ hq_e0; have hz_l2 := l2 _ hq_e0; have hz_f0 := f0 _ hq_e0; have hz_f1 := f1 _ hq_e0; (try go_simp); (try rfl); done)
  try simp only [Act.put, List.setIfInBounds_toArray, List.set_cons_zero, List.set_cons_succ]
  refine wpAnyE_done (by kernel_rfl) ?_ _
  have hF5 := hF3.below hcur
  have hP5 := hP3.below hcur
  have hFP : Hid (F ≠ w2.heap.size) := by have := hFl.out; have := z2.out; unfold Hid; omega
  have x5 := Ext.trans x3 hcur
  have r5 := (r3.below hcur).other_cell (D := F) (j := 1) (by have := hFl.out; omega) (.pointer (some ⟨w2.heap.size, 0, none⟩))
  have c5 := hF5.c1
  have t5 := (t3.below hcur).cell_apart (j := 1) hF5 (by decide) (.pointer (some ⟨w2.heap.size, 0, none⟩))
  have s5 := (s3.below hcur).cell_apart (j := 1) hF5 (by decide) (.pointer (some ⟨w2.heap.size, 0, none⟩))
  have g5 := (g3.below hcur).other_cell (D := F) (j := 1) (by simp) (.pointer (some ⟨w2.heap.size, 0, none⟩))
  have hF5' := hF5.set1 (.pointer (some ⟨w2.heap.size, 0, none⟩))
  have hP5' := hP5.other_cell (D := F) (j := 1) (fun e => hFP.out e.symm) (.pointer (some ⟨w2.heap.size, 0, none⟩))
  have hh := hash1_any g k (.slice A t.length c) t _ t5.sl htl hk g5
  have cF := hF5'.c0.1
  have but5 : But F F F w (w5.setCell ⟨F, 1, none⟩ (.pointer (some ⟨w2.heap.size, 0, none⟩))) := (But.of x5 (Nat.le_of_lt hFl.out)).setCell (.inl rfl) (Nat.le_refl _) _
  clear km f0 f1 l1 l2 hF5 hP5 t3 s3 g3 hF3
  generalize hdd : hashL k t = hd at *
  replace hdd : Hid _ := hdd
  unfold hv at cF
  go_wp2_with fail
  (with_reducible refine hh.mono ?_); rintro e w6 ⟨rfl, b6⟩
  have r6 := r5.below b6
  have hF6 := hF5'.below b6
  have hP6 := hP5'.below b6
  have but6 := but5.trans (But.of b6 (Nat.le_trans (Nat.le_of_lt hFl.out) but5.below.size))
  have hret := arr_dg.loadVar (r6.setRow hd) hdl
  have fin := find_end (t := t) (x := x) hFl.out hP6 hF6 (t5.below b6) (s5.below b6) but6 r6 hd
  go_wp2_with ((with_reducible refine at_store ?_); refine arr_dg.storeL r6 zer_length rfl hdl _ _ rfl rfl rfl ?_)
  exact ret_cell (v := dg hd) Try.results37 rfl hret rfl ⟨by rw [hdd.out], fin⟩
set_option maxHeartbeats 4000000 in
theorem met_skip (F g k : Nat) (q : List UInt8 × List UInt8) (vt vl : Value) (t : List UInt8) (zs : List (List UInt8)) (w : World) (hk : k ≤ 256) (hF : FindAt w F g (some q)) (hg : HvAt w g k)
    (ht : OwB 0 w vt t) (htl : t.length ≤ 1073741824) (hl : SlX w vl zs) (hzl : zs.length ≤ 1048576) (hz : ∀ z ∈ zs, z.length ≤ 1048576) :
    Calls Try.prog 37 #[.pointer (some ⟨F, 0, none⟩), vt, vl] w fun e w' => e = .returned (dg (hashL k t)) ∧ FindAt w' F g (some q) ∧ Below w.heap.size w w' := by
  have r0 : RowT 38 (w.alloc (.cells (bs zer).toArray 38 (0, 0))) w.heap.size zer := heap_alloc_new _ _
  have b0 := ext_alloc w (.cells (bs zer).toArray 38 (0, 0))
  have htx := text_any g k hk 1048576 vl zs _ hzl (Nat.le_refl _) hz (hl.below b0) (hg.below b0)
  have hF0 := hF
  obtain ⟨P, va, vb, h1, h2, h3, h4⟩ := hF
  have c0 := fun o => (h1.below (ext_alloc w o)).c0.1
  have hdl := hashL_length k t
  obtain ⟨A, c, rfl, _⟩ := id ht.sl
  generalize textL k zs = x at *
  clear hl hz h2 h3 h4
  unfold hv at htx c0
  go_enter Try.func37, Try.ntmps37
  go_wp2_with fail
  refine htx.mono ?_; rintro e w2 ⟨v2, rfl, s2, b2⟩
  clear c0 htx
  have x2 := Ext.trans b0 b2
  obtain ⟨A2, c2, rfl, _⟩ := id s2
  have e3 := ext_alloc w2 (.cells #[.slice A t.length c, .slice A2 x.length c2] 30)
  have x3 := Ext.trans x2 e3
  have t3 := ht.below x3
  have r3 := (r0.below b2).below e3
  have h13 := h1.below x3
  have g3 := hg.below x3
  clear s2 r0 b2 b0 x2 e3
  go_wp2_with fail
  generalize World.alloc w2 _ = W at *
  have f0 := fun w' (h : Ext W w') => (h13.below h).c0.1
  have f1 := fun w' (h : Ext W w') => (h13.below h).c1.1
  have hcur : Below W.heap.size W W := Below.refl _ _
  have e0 := Ext.refl W
  unfold hv at f0
  refine wp_region_E (by kernel_rfl) ?_
  replace hcur := below_via hcur (ext_drew _)
  replace e0 := Ext.trans e0 (ext_drew _)
  refine wpAnyE_take (i := 0) (v := ?_) (some 16) rfl rfl (by kernel_rfl) (by kernel_rfl) (by kernel_rfl) (fun _ _ _ h => h) ?_ ?_
  rotate_left 1
  · (refine Or.inl ⟨by rfl, ?_⟩; intro w' hw'; have hq := below_via hcur hw'; have hq_e0 := Ext.trans e0 hw'; have hz_f0 := f0 _ hq_e0; have hz_f1 := f1 _ hq_e0; (try go_simp); (try rfl); done)
  try simp only [Act.put, List.setIfInBounds_toArray, List.set_cons_zero, List.set_cons_succ]
  refine wpAnyE_take (i := 1) (v := ?_) (some 17) rfl rfl (by kernel_rfl) (by kernel_rfl) (by kernel_rfl) (fun _ _ _ h => h) ?_ ?_
  rotate_left 1
  · (refine Or.inl ⟨by rfl, ?_⟩; intro w' hw'; have hq := below_via hcur hw'; have hq_e0 := Ext.trans e0 hw'; have hz_f0 := f0 _ hq_e0; have hz_f1 := f1 _ hq_e0; (try go_simp); (try rfl); done)
  try simp only [Act.put, List.setIfInBounds_toArray, List.set_cons_zero, List.set_cons_succ]
  refine wpAnyE_take (i := 2) (v := ?_) (some 18) rfl rfl (by kernel_rfl) (by kernel_rfl) (by kernel_rfl) (fun _ _ _ h => h) ?_ ?_
  rotate_left 1
  · (refine Or.inl ⟨by rfl, ?_⟩; intro w' hw'; have hq := below_via hcur hw'; have hq_e0 := Ext.trans e0 hw'; have hz_f0 := f0 _ hq_e0; have hz_f1 := f1 _ hq_e0; (try go_simp); (try rfl); done)
  try simp only [Act.put, List.setIfInBounds_toArray, List.set_cons_zero, List.set_cons_succ]
  refine wpAnyE_take (i := 3) (v := ?_) (some 19) rfl rfl (by kernel_rfl) (by kernel_rfl) (by kernel_rfl) (fun _ _ _ h => h) ?_ ?_
  rotate_left 1
  · (refine Or.inl ⟨by rfl, ?_⟩; intro w' hw'; have hq := below_via hcur hw'; have hq_e0 := Ext.trans e0 hw'; have hz_f0 := f0 _ hq_e0; have hz_f1 := f1 _ hq_e0; (try go_simp); (try rfl); done)
  try simp only [Act.put, List.setIfInBounds_toArray, List.set_cons_zero, List.set_cons_succ]
  refine wpAnyE_take (i := 4) (v := ?_) (some 20) rfl rfl (by kernel_rfl) (by kernel_rfl) (by kernel_rfl) (fun _ _ _ h => h) ?_ ?_
  rotate_left 1
  · (refine Or.inl ⟨by rfl, ?_⟩; intro w' hw'; have hq := below_via hcur hw'; have hq_e0 := Ext.trans e0 hw'; have hz_f0 := f0 _ hq_e0; have hz_f1 := f1 _ hq_e0; (try go_simp); (try rfl); done)
  try simp only [Act.put, List.setIfInBounds_toArray, List.set_cons_zero, List.set_cons_succ]
  refine wpAnyE_take (i := 5) (v := ?_) (some 21) rfl rfl (by kernel_rfl) (by kernel_rfl) (by kernel_rfl) (fun _ _ _ h => h) ?_ ?_
  rotate_left 1
  · (refine Or.inl ⟨by rfl, ?_⟩; intro w' hw'; have hq := below_via hcur hw'; have hq_e0 := Ext.trans e0 hw'; have hz_f0 := f0 _ hq_e0; have hz_f1 := f1 _ hq_e0; (try go_simp); (try rfl); done)
  try simp only [Act.put, List.setIfInBounds_toArray, List.set_cons_zero, List.set_cons_succ]
  refine wpAnyE_take (i := 6) (v := undef) (some 22) rfl rfl (by kernel_rfl) (by kernel_rfl) (by kernel_rfl) (fun _ _ _ h => h) (Or.inr ⟨by rfl, rfl⟩) ?_
  try simp only [Act.put, List.setIfInBounds_toArray, List.set_cons_zero, List.set_cons_succ]
  refine wpAnyE_take (i := 7) (v := undef) (some 23) rfl rfl (by kernel_rfl) (by kernel_rfl) (by kernel_rfl) (fun _ _ _ h => h) (Or.inr ⟨by rfl, rfl⟩) ?_
  try simp only [Act.put, List.setIfInBounds_toArray, List.set_cons_zero, List.set_cons_succ]
  refine wpAnyE_take (i := 8) (v := undef) (some 24) rfl rfl (by kernel_rfl) (by kernel_rfl) (by kernel_rfl) (fun _ _ _ h => h) (Or.inr ⟨by rfl, rfl⟩) ?_
  try simp only [Act.put, List.setIfInBounds_toArray, List.set_cons_zero, List.set_cons_succ]
  refine wpAnyE_take (i := 9) (v := undef) (some 25) rfl rfl (by kernel_rfl) (by kernel_rfl) (by kernel_rfl) (fun _ _ _ h => h) (Or.inr ⟨by rfl, rfl⟩) ?_
  try simp only [Act.put, List.setIfInBounds_toArray, List.set_cons_zero, List.set_cons_succ]
  refine wpAnyE_take (i := 10) (v := undef) (some 26) rfl rfl (by kernel_rfl) (by kernel_rfl) (by kernel_rfl) (fun _ _ _ h => h) (Or.inr ⟨by rfl, rfl⟩) ?_
  try simp only [Act.put, List.setIfInBounds_toArray, List.set_cons_zero, List.set_cons_succ]
  refine wpAnyE_take (i := 11) (v := undef) (some 27) rfl rfl (by kernel_rfl) (by kernel_rfl) (by kernel_rfl) (fun _ _ _ h => h) (Or.inr ⟨by rfl, rfl⟩) ?_
  try simp only [Act.put, List.setIfInBounds_toArray, List.set_cons_zero, List.set_cons_succ]
  refine wpAnyE_take (i := 12) (v := ?_) (some 28) rfl rfl (by kernel_rfl) (by kernel_rfl) (by kernel_rfl) (fun _ _ _ h => h) ?_ ?_
  rotate_left 1
  · (refine Or.inl ⟨by rfl, ?_⟩; intro w' hw'; have hq := below_via hcur hw'; have hq_e0 := Ext.trans e0 hw'; have hz_f0 := f0 _ hq_e0; have hz_f1 := f1 _ hq_e0; (try go_simp); (try rfl); done)
  try simp only [Act.put, List.setIfInBounds_toArray, List.set_cons_zero, List.set_cons_succ]
  refine wpAnyE_done (by kernel_rfl) ?_ _
  have r5 := r3.below hcur
  have c5 := f0 _ hcur
  have hh := hash1_any g k (.slice A t.length c) t _ (t3.below hcur).sl htl hk (g3.below hcur)
  have x5 := Ext.trans x3 hcur
  clear f0 f1
  generalize hdd : hashL k t = hd at *
  replace hdd : Hid _ := hdd
  go_wp2_with fail
  (with_reducible refine hh.mono ?_); rintro e w6 ⟨rfl, b6⟩
  have r6 := r5.below b6
  have x6 := Ext.trans x5 b6
  have hF6 := hF0.below x6
  have hret := arr_dg.loadVar (r6.setRow hd) hdl
  have bz := below_setRow x6 (Nat.le_refl _) (bs hd).toArray
  have hF7 := hF6.row r6 (bs hd).toArray
  go_wp2_with ((with_reducible refine at_store ?_); refine arr_dg.storeL r6 zer_length rfl hdl _ _ rfl rfl rfl ?_)
  exact ret_cell (v := dg hd) Try.results37 rfl hret rfl ⟨by rw [hdd.out], hF7, bz⟩
theorem FindAt.lt {w : World} {F g : Nat} {o : Option (List UInt8 × List UInt8)} (h : FindAt w F g o) : F < w.heap.size := by
  cases o with
  | none => exact PR.lt h
  | some q => obtain ⟨P, va, vb, h1, _⟩ := h; exact h1.lt
/-- What met does. -/
theorem met_any (F g k : Nat) (o : Option (List UInt8 × List UInt8)) (vt vl : Value) (t : List UInt8) (zs : List (List UInt8)) (w : World) (hk : k ≤ 256) (hF : FindAt w F g o) (hg : HvAt w g k)
    (ht : OwB 0 w vt t) (htl : t.length ≤ 1073741824) (hl : SlX w vl zs) (hzl : zs.length ≤ 1048576) (hz : ∀ z ∈ zs, z.length ≤ 1048576) :
    Calls Try.prog 37 #[.pointer (some ⟨F, 0, none⟩), vt, vl] w fun e w' => e = .returned (dg (hashL k t)) ∧ FindAt w' F g (metL k o t (textL k zs)) ∧ But F F F w w' := by
  cases o with
  | some q => exact (met_skip F g k q vt vl t zs w hk hF hg ht htl hl hzl hz).mono fun e w' ⟨h1, h2, h3⟩ => ⟨h1, h2, But.of h3 (Nat.le_of_lt hF.lt)⟩
  | none =>
    have e : metL k none t (textL k zs) = if mayL k t (textL k zs) then some (t, textL k zs) else none := rfl
    rw [e]
    cases hm : mayL k t (textL k zs) with
    | true => exact met_yes F g k vt vl t zs w hk hF hg ht htl hl hzl hz hm
    | false => exact (met_no F g k vt vl t zs w hk hF hg ht htl hl hzl hz hm).mono fun e w' ⟨h1, h2, h3⟩ => ⟨h1, h2, But.of h3 (Nat.le_of_lt (PR.lt hF))⟩
end Go.Proofs.Ytnpbapefjbfndaa
