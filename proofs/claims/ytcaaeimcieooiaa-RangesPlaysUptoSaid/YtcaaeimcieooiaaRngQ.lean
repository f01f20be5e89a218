/- The reference: Add (walk). -/
import Derived.Test.YtcaaeimcieooiaaRngO
import Derived.Test.YtcaaeimcieooiaaRk
import Derived.Deep.DeepCutAuto
set_option linter.unusedVariables false
set_option linter.unusedSimpArgs false
set_option maxRecDepth 10000
namespace Go.Proofs.Ytcaaeimcieooiaa
open Go.RowKit
attribute [local go_sem high] dg_cells guard_dg pt_cells

theorem rr_add_full {w : World} {p n : Nat} {v : Value} (h : RrAt w p n v) (hn : n = 1048576) (x : List UInt8) : Calls Try.prog 10 #[ptr p, dg x] w fun e w' => e = .returned (.tuple #[.slice none 0 0, .int .i64 7]) ∧ Below w.heap.size w w' := by
  subst hn
  have b := ext_alloc w (.cells (bs x).toArray 29)
  have h1 := h.below b
  have c0 := h1.c0.1
  change Calls _ _ #[_, .agg (bs x).toArray] _ _
  go_enter Try.func10, Try.ntmps10
  go_wp2_with fail
  go_ret2
  exact ⟨rfl, b⟩
/-- One merging. -/
theorem merge_step {f : Nat} {ps : List PartL} {told : List (List UInt8)} (h2 : 2 ≤ ps.length) (he : (ps.getD (ps.length - 1) (0, [])).1 = (ps.getD (ps.length - 2) (0, [])).1) :
    mergeN (f + 1) ps told = mergeN f (ps.take (ps.length - 2) ++ [((ps.getD (ps.length - 2) (0, [])).1 + (ps.getD (ps.length - 1) (0, [])).1, nodeL (ps.getD (ps.length - 2) (0, [])).2 (ps.getD (ps.length - 1) (0, [])).2)])
        (told ++ [nodeL (ps.getD (ps.length - 2) (0, [])).2 (ps.getD (ps.length - 1) (0, [])).2]) := by
  conv => lhs; unfold mergeN
  rw [if_pos ⟨h2, he⟩]
theorem merge_end {f : Nat} {ps : List PartL} {told : List (List UInt8)} (h : ¬ (2 ≤ ps.length ∧ (ps.getD (ps.length - 1) (0, [])).1 = (ps.getD (ps.length - 2) (0, [])).1)) : mergeN f ps told = (ps, told) := by
  cases f with
  | zero => rfl
  | succ f => unfold mergeN; rw [if_neg h]
theorem OwP.cut {B : Nat} {w : World} {A : Option Addr} {n c : Nat} {ps : List PartL} (h : OwP B w (.slice A n c) ps) (k : Nat) (hk : k ≤ n) (hn : n = ps.length) : SlP w (.slice A k c) (ps.take k) := by
  obtain ⟨h1, h2⟩ := h.sl
  subst hn
  have := sl_slice (s := 33) h1 (psC_length h2) 0 k (Nat.zero_le _) hk
  rw [Nat.zero_mul, List.drop_zero, Nat.sub_zero, Nat.sub_zero, psC_take _ _ h2] at this
  refine ⟨?_, h2.take k⟩
  rw [List.length_take, Nat.min_eq_left hk]
  have e : slA A 0 c 33 = A := by
    unfold slA
    split
    · rfl
    · cases A with
      | none => rfl
      | some a => simp; cases a; rfl
  rw [e] at this; exact this
theorem wp_storeP_at {o : Oper} {a : Act} {w : World} {K : Act → World → Prop} {Q : Exit → Act → World → Prop} {D n m : Nat} {c d : List UInt8} (h : RowP w D m c) (hc : c.length = 32) (hd : d.length = 32) (p y : Operand) (ho : o.op = .store 60 p y) (ht : o.dst = none) (hp : a.eval p = .pointer (some ⟨D, 0, none⟩)) (hy : a.eval y = pt n d)
    (hK : K a (w.setRow D (ptC n d).toArray)) : o.wp Try.prog a w K Q := wp_storeP h hc hd p y ho hp hy (by rw [ht]; exact hK)
theorem ext_alloc_S {w0 w : World} (h : Ext w0 w) (b : Obj) : Ext w0 (w.alloc b) := Ext.trans h (ext_alloc w b)
theorem rowP_new_S {w0 w : World} (h : Ext w0 w) : RowP (w.alloc (.cells (ptC 0 zer).toArray 60 (0, 0))) w.heap.size 0 zer := heap_alloc_new w _
theorem RowP.alloc {w : World} {D n : Nat} {d : List UInt8} (h : RowP w D n d) (b : Obj) : RowP (w.alloc b) D n d := h.below (ext_alloc w b)
/-- 'append' of parts onto an own slice. -/
theorem wp_apP (dt : Option Tmp) {w : World} {o : Oper} {a : Act} {K : Act → World → Prop} {Q : Exit → Act → World → Prop}
    (s x : Operand) (hop : o.op = Op.call { callee := Callee.builtin Builtin.append, args := #[s, x], argTypes := #[52, 52] })
    (ht : o.dst = dt) {B : Nat} {v : Value} {ad : Addr} {m c : Nat} {xs ys : List PartL} (hs : a.eval s = v) (hown : OwP B w v xs) (hx : a.eval x = .slice (some ad) m c) (hsrc : SlP w (.slice (some ad) m c) ys)
    (hlen : xs.length + ys.length ≤ 1099511627776) (hB : B ≤ w.heap.size)
    (hK : ∀ v' w', OwP B w' v' (xs ++ ys) → w.grownBy w' v.ownBlock → K (a.put dt v') w') : o.wp Try.prog a w K Q := by
  subst ht
  obtain ⟨⟨A, c', e, hc, hcm, hA, hr⟩, h32⟩ := hsrc
  injection e with e1 e2 e3
  subst e1 e2 e3
  obtain ⟨i, hi, hz0, hz1, hz2⟩ := info_parts infoP
  refine wp_append_own w s x 52 hop B 60 i _ 33 40 Try.underlying52 hi hz0 hz1 hz2 (by simp [pt, ptC, Value.cells, bs_length, zer_length]) (by decide) v xs.length (psC xs) hs hown.1 ad ys.length c (psC ys) hx (by rw [psC_length h32]) hr.some_ (psC_one _) (by unfold maxLen; omega) (by omega) hB ?_
  intro v' w' ho hgr _
  refine hK v' w' ⟨?_, hown.2.append h32⟩ hgr
  rw [List.length_append, psC_append]; exact ho
theorem wp_bPd (dt : Option Tmp) {o : Oper} {a : Act} {w : World} {K : Act → World → Prop} {Q : Exit → Act → World → Prop} {n : Nat} {d : List UInt8} (hd : d.length = 32) (y : Operand) (ho : o.op = .buildSlice 52 1 #[(0, y)]) (ht : o.dst = dt) (hy : a.eval y = pt n d)
    (h : K (a.put dt (.slice (some ⟨w.heap.size, 0, none⟩) 1 1)) (w.alloc (.cells (ptC n d).toArray 60 (0, 0)))) : o.wp Try.prog a w K Q := by
  subst ht; exact wp_bP hd y ho hy h
theorem wp_apPd (dt : Option Tmp) {w : World} {o : Oper} {a : Act} {K : Act → World → Prop} {Q : Exit → Act → World → Prop}
    (s x : Operand) (hop : o.op = Op.call { callee := Callee.builtin Builtin.append, args := #[s, x], argTypes := #[52, 52] }) (ht : o.dst = dt)
    {B : Nat} {v vx : Value} {xs ys : List PartL} (hs : a.eval s = v) (hown : OwP B w v xs) (hx : a.eval x = vx) (hsrc : SlP w vx ys) (hne : ys ≠ [])
    (hlen : xs.length + ys.length ≤ 1099511627776) (hB : B ≤ w.heap.size)
    (hK : ∀ g c w', OwP B w' (.slice (some ⟨g, 0, none⟩) (xs.length + ys.length) c) (xs ++ ys) → w.grownBy w' v.ownBlock → (v.ownBlock = some g ∨ g = w.heap.size) → g < w'.heap.size → K (a.put dt (.slice (some ⟨g, 0, none⟩) (xs.length + ys.length) c)) w') : o.wp Try.prog a w K Q := by
  subst ht; exact wp_apP_at s x hop hs hown hx hsrc hne hlen hB hK
theorem wpl_loadP {ops : Array Oper} {rest : List Oper} {o : Oper} {a : Act} {w : World} {Q : Exit → Act → World → Prop} {D n : Nat} {d : List UInt8} (h : RowP w D n d) (hd : d.length = 32) (hg : o.guard = none) (p : Operand) (ho : o.op = .load 60 p) (hp : a.eval p = .pointer (some ⟨D, 0, none⟩))
    (hK : wpList Try.prog ops Q rest (a.put o.dst (pt n d)) w) : wpList Try.prog ops Q (o :: rest) a w :=
  wpList_plain hg fun _ hk => by
    unfold Oper.wp
    rw [ex_loadP h.rc hd p ho hp]
    exact hk _ _ hK
theorem wpl_bP {ops : Array Oper} {rest : List Oper} {o : Oper} {a : Act} {w : World} {Q : Exit → Act → World → Prop} (hg : o.guard = none) {n : Nat} {d : List UInt8} (hd : d.length = 32) (y : Operand) (ho : o.op = .buildSlice 52 1 #[(0, y)]) (hy : a.eval y = pt n d)
    (h : wpList Try.prog ops Q rest (a.put o.dst (.slice (some ⟨w.heap.size, 0, none⟩) 1 1)) (w.alloc (.cells (ptC n d).toArray 60 (0, 0)))) : wpList Try.prog ops Q (o :: rest) a w :=
  wpList_plain hg fun _ hK => wp_bP hd y ho hy (hK _ _ h)
theorem wpl_apP {w : World} {ops : Array Oper} {rest : List Oper} {o : Oper} {a : Act} {Q : Exit → Act → World → Prop} (hgd : o.guard = none)
    (s x : Operand) (hop : o.op = Op.call { callee := Callee.builtin Builtin.append, args := #[s, x], argTypes := #[52, 52] })
    {B : Nat} {v vx : Value} {xs ys : List PartL} (hs : a.eval s = v) (hown : OwP B w v xs) (hx : a.eval x = vx) (hsrc : SlP w vx ys) (hne : ys ≠ [])
    (hlen : xs.length + ys.length ≤ 1099511627776) (hB : B ≤ w.heap.size)
    (hK : ∀ g c w', OwP B w' (.slice (some ⟨g, 0, none⟩) (xs.length + ys.length) c) (xs ++ ys) → w.grownBy w' v.ownBlock → (v.ownBlock = some g ∨ g = w.heap.size) → g < w'.heap.size → wpList Try.prog ops Q rest (a.put o.dst (.slice (some ⟨g, 0, none⟩) (xs.length + ys.length) c)) w') : wpList Try.prog ops Q (o :: rest) a w :=
  wpList_plain hgd fun _ hk => wp_apP_at s x hop hs hown hx hsrc hne hlen hB fun g c w' h1 h2 h3 h4 => hk _ _ (hK g c w' h1 h2 h3 h4)
/-- A row of parts is no row of digests. -/
theorem OwP.neD {B B' : Nat} {w : World} {v u : Value} {ps : List PartL} {ds : List (List UInt8)} (h : OwP B w v ps) (k : OwD B' w u ds) {j : Nat} (hu : u.ownBlock = some j) : v.ownBlock ≠ some j := by
  intro hv
  rcases h.1.2 with ⟨e, _⟩ | ⟨g, cap, cur, e, _, hg, _⟩
  · rw [e] at hv; simp [Value.ownBlock] at hv
  · rcases k.1.2 with ⟨e2, _⟩ | ⟨g2, cap2, cur2, e2, _, hg2, _⟩
    · rw [e2] at hu; simp [Value.ownBlock] at hu
    · rw [e] at hv; rw [e2] at hu
      simp only [Value.ownBlock, Option.some.injEq] at hv hu
      subst hv hu
      rw [hg] at hg2
      simp at hg2
def lenV : Value → Nat | .slice _ n _ => n | _ => 0
theorem lenV_own {B : Nat} {w : World} {v : Value} {ds : List (List UInt8)} (h : OwD B w v ds) : lenV v = ds.length := by
  rcases h.1.2 with ⟨e, h0⟩ | ⟨g, cap, cur, e, _⟩
  · rw [e, h0]; rfl
  · rw [e]; rfl
/-- What stands while the reference adds. -/
structure AddR (w : World) (B p n : Nat) (v : Value) (wr : World) (f : Nat) (ps : List PartL) (told : List (List UInt8)) (v1 v6 : Value) : Prop where
  fuel : ps.length ≤ f
  fl : f ≤ 22
  num : ∀ q ∈ ps, q.1 * 2 ^ f ≤ 8796093022208
  tl : told.length + f ≤ 23
  at_ : RrAt wr p (n + 1) v1
  own : OwP B wr v1 ps
  tld : OwD (w.heap.size + 1) wr v6 told
  but : But (RgB p v) w wr
  sz : w.heap.size + 1 < wr.heap.size
  pos : 0 < ps.length
theorem AddR.ext {w : World} {B p n : Nat} {v : Value} {wr wx : World} {f : Nat} {ps : List PartL} {told : List (List UInt8)} {v1 v6 : Value} (h : AddR w B p n v wr f ps told v1 v6) (e : Ext wr wx) : AddR w B p n v wx f ps told v1 v6 :=
  ⟨h.fuel, h.fl, h.num, h.tl, h.at_.below e, h.own.below e, h.tld.below e, h.but.trans (But.of_ext e), Nat.lt_of_lt_of_le h.sz e.size, h.pos⟩
set_option maxHeartbeats 8000000 in
theorem rr_add {w : World} {p n : Nat} {v : Value} {ds : List (List UInt8)} {B : Nat} (h : RrH B w p n v (partsN n ds)) (hB : B ≤ w.heap.size) (hn : n < 1048576) (hp : ds.length = popN 21 n) (x : List UInt8) (hx : x.length = 32) :
    Calls Try.prog 10 #[ptr p, dg x] w fun e w' => ∃ u v', e = .returned (.tuple #[u, .int .i64 0]) ∧ OwD w.heap.size w' u (toldN n ds x) ∧
      RrH B w' p (n + 1) v' (partsN (n + 1) (nextN n ds x)) ∧ But (RgB p v) w w' := by
  have hmerge : mergeN 22 (partsN n ds ++ [(1, x)]) [x] = (partsN (n + 1) (nextN n ds x), toldN n ds x) := by
    have := merge_add 21 22 1 n ds x [x] (by decide) (by omega) (by omega) hp
    rw [lowN_fuel 21 1 (n + 1) (by omega)] at this
    exact this
  have hlp := (by unfold partsN; rw [List.length_zip, lowN_length, ← hp, Nat.min_self] : (partsN n ds).length = ds.length)
  have h21 : ds.length ≤ 21 := by rw [hp]; exact pop_le 21 n
  have hnum : ∀ q ∈ partsN n ds, q.1 ≤ 1048576 := fun q hq => by
    have h1 := (List.of_mem_zip hq).1
    rw [low_top 21 n (by omega)] at h1
    have := top_le 21 n _ h1
    omega
  have b := ext_alloc w (.cells (bs x).toArray 29)
  have hR0 : RowT 29 (w.alloc (.cells (bs x).toArray 29)) w.heap.size x := heap_alloc_new _ _
  have h1 := h.below b
  have bu1 : But (RgB p v) w (w.alloc (.cells (bs x).toArray 29)) := But.of_ext b
  have zW := size_alloc w (.cells (bs x).toArray 29)
  generalize hW : w.alloc (.cells (bs x).toArray 29) = W at *
  have c0 := h1.at_.c0
  have hA2 := h1.at_.set0 (n + 1)
  have hpz := h.lt
  have hnp := h.at_.ne_own h.own
  have hO2 : OwP B (W.setCell ⟨p, 0, none⟩ (.int .u64 ((n + 1 : Nat) : Int))) v (partsN n ds) := h1.own.apart fun k hk => Below.heap_setCell _ _ _ _ (by rintro rfl; exact hnp hk)
  have hR2 : RowT 29 (W.setCell ⟨p, 0, none⟩ (.int .u64 ((n + 1 : Nat) : Int))) w.heap.size x := (Below.heap_setCell _ _ _ _ (by show w.heap.size ≠ p; omega)).trans hR0
  have bu2 := bu1.setCell (p := ⟨p, 0, none⟩) (.inl rfl) (.int .u64 ((n + 1 : Nat) : Int))
  have z2 : (W.setCell ⟨p, 0, none⟩ (.int .u64 ((n + 1 : Nat) : Int))).heap.size = w.heap.size + 1 := by simp [World.setCell, zW]
  have d1 : decide ((1048576 : Int) ≤ n) = false := decide_eq_false (by omega)
  have d2 : decide (1048576 ≤ n) = false := decide_eq_false (by omega)
  have hwn : IntKind.u64.wrap ((n : Int) + 1) = ((n + 1 : Nat) : Int) := by rw [IntKind.wrap_u64]; omega
  replace hmerge : Hid _ := hmerge
  replace hlp : Hid _ := hlp
  replace hp : Hid _ := hp
  replace hnum : Hid _ := hnum
  change Calls _ _ #[_, .agg (bs x).toArray] _ _
  go_enter Try.func10, Try.ntmps10
  go_wp2_with fail
  have hcast : ((n + 1 : Nat) : Int) = (n : Int) + 1 := by simp
  rw [hcast] at hO2 hR2 bu2 z2 hA2
  generalize W.setCell ⟨p, 0, none⟩ (.int .u64 ((n : Int) + 1)) = X at *
  clear hcast hwn hR0 bu1 h1 c0 b hW
  have e1 := ext_alloc X.drew (.cells (ptC 1 x).toArray 60 (0, 0))
  have e2 := Ext.trans (ext_drew X) e1
  have hO1 := hO2.below e2
  have hA1 := hA2.below e2
  have hR1 := hR2.below e2
  have hsrc := slP_one X.drew 1 x 60 hx
  have hS : RrAt X.drew p (n + 1) v ∧ RowT 29 X.drew w.heap.size x := ⟨hA2.below (ext_drew _), hR2.below (ext_drew _)⟩
  refine wp_region_L (fun w' => RrAt w' p (n + 1) v ∧ RowT 29 w' w.heap.size x) [8, 11] (by kernel_rfl) (fun hcl => ?_)
  refine wpAnyL_pure (i := 0) (v := ?_) hcl (some 23) rfl rfl (by kernel_rfl) (by kernel_rfl) (by kernel_rfl) (fun _ _ _ h => h) ?_ (fun hcl => ?_)
  rotate_left 1
  · (refine Or.inl ⟨by rfl, ?_⟩; intro w' hw'; (try go_simp); (try rfl); done)
  try simp only [Act.put, List.setIfInBounds_toArray, List.set_cons_zero, List.set_cons_succ]
  refine wpAnyL_take (i := 1) (v := ?_) hcl hS (some 24) rfl rfl (by kernel_rfl) (by kernel_rfl) (by kernel_rfl) (fun _ _ _ h => h) (by kernel_rfl) ?_ (fun hcl => ?_)
  rotate_left 1
  · (refine Or.inl ⟨by rfl, ?_⟩; intro w' hw'; (try go_simp); (try rfl); done)
  try simp only [Act.put, List.setIfInBounds_toArray, List.set_cons_zero, List.set_cons_succ]
  refine wpAnyL_take (i := 2) (v := ?_) hcl hS (some 25) rfl rfl (by kernel_rfl) (by kernel_rfl) (by kernel_rfl) (fun _ _ _ h => h) (by kernel_rfl) ?_ (fun hcl => ?_)
  rotate_left 1
  · (refine Or.inl ⟨by rfl, ?_⟩; intro w' hw'; (try go_simp); (try rfl); done)
  try simp only [Act.put, List.setIfInBounds_toArray, List.set_cons_zero, List.set_cons_succ]
  refine wpAnyL_take (i := 3) (v := ?_) hcl hS (some 26) rfl rfl (by kernel_rfl) (by kernel_rfl) (by kernel_rfl) (fun _ _ _ h => h) (by kernel_rfl) ?_ (fun hcl => ?_)
  rotate_left 1
  · (refine Or.inl ⟨by rfl, ?_⟩; intro w' hw'; (try go_simp); (try rfl); done)
  try simp only [Act.put, List.setIfInBounds_toArray, List.set_cons_zero, List.set_cons_succ]
  refine wpAnyL_take (i := 4) (v := ?_) hcl hS (some 27) rfl rfl (by kernel_rfl) (by kernel_rfl) (by kernel_rfl) (fun _ _ _ h => h) (by kernel_rfl) ?_ (fun hcl => ?_)
  rotate_left 1
  · (refine Or.inl ⟨by rfl, ?_⟩; intro w' hw'; have hcl := hw'.1.c1.1; (try go_simp); (try rfl); done)
  try simp only [Act.put, List.setIfInBounds_toArray, List.set_cons_zero, List.set_cons_succ]
  refine wpAnyL_take (i := 5) (v := ?_) hcl hS (some 28) rfl rfl (by kernel_rfl) (by kernel_rfl) (by kernel_rfl) (fun _ _ _ h => h) (by kernel_rfl) ?_ (fun hcl => ?_)
  rotate_left 1
  · (refine Or.inl ⟨by rfl, ?_⟩; intro w' hw'; (refine arr_dg.ex hw'.2 hx (.tmp 3) ?_ ?_ <;> rfl))
  try simp only [Act.put, List.setIfInBounds_toArray, List.set_cons_zero, List.set_cons_succ]
  refine wpAnyL_take (i := 6) (v := ?_) hcl hS (some 29) rfl rfl (by kernel_rfl) (by kernel_rfl) (by kernel_rfl) (fun _ _ _ h => h) (by kernel_rfl) ?_ (fun hcl => ?_)
  rotate_left 1
  · (refine Or.inl ⟨by rfl, ?_⟩; intro w' hw'; (refine ex_pt (n := 1) hx (.const (.int .u64 1)) (.tmp 28) ?_ ?_ ?_ <;> rfl))
  try simp only [Act.put, List.setIfInBounds_toArray, List.set_cons_zero, List.set_cons_succ]
  refine wpAnyL_one (i := 7) hcl rfl (by kernel_rfl) (by rfl) (fun hcl K hK => ?_)
  refine wp_bP (n := 1) hx _ rfl rfl ?_
  have hb : RrAt (X.drew.alloc (.cells (ptC 1 x).toArray 60 (0, 0))) p (n + 1) v ∧ RowT 29 (X.drew.alloc (.cells (ptC 1 x).toArray 60 (0, 0))) w.heap.size x := ⟨hA1, hR1⟩
  refine hK.out _ _ (fun _ => hb) ?_
  replace hS := hb
  clear hK K hb
  try simp only [Act.put, List.setIfInBounds_toArray, List.set_cons_zero, List.set_cons_succ]
  refine wpAnyL_late (i := 8) hcl rfl (by kernel_rfl) (by rfl) (by kernel_rfl) (fun hcl K hK => ?_)
  refine wp_apP_at _ _ rfl (B := B) rfl hO1 rfl hsrc (by simp) (by rw [hlp.out]; simp; omega) (by have := e2.size; omega) ?_; intro gv cv w9 h9 hg9 hat hlt9
  rw [List.length_singleton] at h9 ⊢
  have hA9 : RrAt w9 p (n + 1) v := (hg9.block p hA1.lt (fun e => hnp e.symm)).trans hA1
  have g9 := hA9.c1
  refine hK.out _ _ ?_
  clear hK K
  try simp only [Act.put, List.setIfInBounds_toArray, List.set_cons_zero, List.set_cons_succ]
  refine wpAnyL_pure (i := 9) (v := ?_) hcl (some 32) rfl rfl (by kernel_rfl) (by kernel_rfl) (by kernel_rfl) (fun _ _ _ h => h) ?_ (fun hcl => ?_)
  rotate_left 1
  · (refine Or.inl ⟨by rfl, ?_⟩; intro w' hw'; (try go_simp); (try rfl); done)
  try simp only [Act.put, List.setIfInBounds_toArray, List.set_cons_zero, List.set_cons_succ]
  refine wpAnyL_pure (i := 10) (v := ?_) hcl (some 33) rfl rfl (by kernel_rfl) (by kernel_rfl) (by kernel_rfl) (fun _ _ _ h => h) ?_ (fun hcl => ?_)
  rotate_left 1
  · (refine Or.inl ⟨by rfl, ?_⟩; intro w' hw'; (try go_simp); (try rfl); done)
  try simp only [Act.put, List.setIfInBounds_toArray, List.set_cons_zero, List.set_cons_succ]
  refine wpAnyL_late (i := 11) hcl rfl (by kernel_rfl) (by rfl) (by kernel_rfl) (fun hcl K hK => ?_)
  go_simp
  refine hK.out _ _ ?_
  clear hK K
  try simp only [Act.put, List.setIfInBounds_toArray, List.set_cons_zero, List.set_cons_succ]
  refine wpAnyL_done (by kernel_rfl) ?_ _
  have hvz := fun k (hk : v.ownBlock = some k) => h.own.lt k hk
  have hR9 : RowT 29 w9 w.heap.size x := (hg9.block _ hR1.lt (fun e => by have := (hvz _ e.symm).2; omega)).trans hR1
  have bu9 := (bu2.trans (But.of_ext e2)).grown hg9 (fun k hk => .inr hk)
  have hA10 := hA9.set1 (.slice (some ⟨gv, 0, none⟩) ((partsN n ds).length + 1) cv)
  have hgp := hA9.ne_own h9
  have hO10 : OwP B (w9.setCell ⟨p, 1, none⟩ (.slice (some ⟨gv, 0, none⟩) ((partsN n ds).length + 1) cv)) (.slice (some ⟨gv, 0, none⟩) ((partsN n ds).length + 1) cv) (partsN n ds ++ [(1, x)]) :=
    h9.apart fun k hk => Below.heap_setCell _ _ _ _ (by rintro rfl; exact hgp hk)
  have hR10 : RowT 29 (w9.setCell ⟨p, 1, none⟩ (.slice (some ⟨gv, 0, none⟩) ((partsN n ds).length + 1) cv)) w.heap.size x := (Below.heap_setCell _ _ _ _ (by show w.heap.size ≠ p; omega)).trans hR9
  have bu10 := bu9.setCell (p := ⟨p, 1, none⟩) (.inl rfl) (.slice (some ⟨gv, 0, none⟩) ((partsN n ds).length + 1) cv)
  have z10 : w.heap.size + 1 ≤ (w9.setCell ⟨p, 1, none⟩ (.slice (some ⟨gv, 0, none⟩) ((partsN n ds).length + 1) cv)).heap.size := by have := hg9.size; have := e2.size; simp [World.setCell]; omega
  generalize w9.setCell ⟨p, 1, none⟩ (.slice (some ⟨gv, 0, none⟩) ((partsN n ds).length + 1) cv) = Y at *
  have e3 := ext_alloc Y (.cells (bs x).toArray 29 (0, 0))
  have hT : OwD (w.heap.size + 1) (Y.alloc (.cells (bs x).toArray 29 (0, 0))) (.slice (some ⟨Y.heap.size, 0, none⟩) 1 1) [x] :=
    own_row (n := 1) (by simpa using heap_alloc_new Y (.cells (bs x).toArray 29 (0, 0))) (fun d hd => by rw [List.mem_singleton.1 hd]; exact hx) rfl (by omega) z10
  clear hS hA9 g9 hA1 hO1 hR1 hsrc bu9 hR9 h9 hg9 hat hA2 hO2 hR2 bu2 e1 e2 hgp
  go_wp2_with (first
    | ((with_reducible refine at_load ?_); refine arr_dg.loadL hR10 (by rfl) hx _ rfl rfl ?_)
    | ((with_reducible refine at_bs ?_); refine wpl_bD rfl hx _ rfl rfl ?_))
  have hA11 := hA10.below e3
  have hO11 := hO10.below e3
  have bu11 := bu10.trans (But.of_ext e3)
  have z11 := e3.size
  have zz11 := size_alloc Y (.cells (bs x).toArray 29 (0, 0))
  generalize Y.alloc (.cells (bs x).toArray 29 (0, 0)) = Z at *
  clear hA10 hO10 hR10 bu10 e3
  go_loopw [6] (fun s6 wr => ∃ (f : Nat) (ps : List PartL) (told : List (List UInt8)) (v1 v6 : Value), s6 = v6 ∧ Hid (mergeN f ps told = mergeN 22 (partsN n ds ++ [(1, x)]) [x]) ∧ AddR w B p n v wr f ps told v1 v6) (fun s6 _ => 23 - lenV s6)
  case atStart =>
    have hl := hlp.out
    refine ⟨22, _, [x], _, _, rfl, rfl, ⟨by rw [List.length_append, hl]; simp; omega, Nat.le_refl _, fun q hq => ?_, by simp, hA11, hO11, hT, bu11, by omega, by simp⟩⟩
    rcases List.mem_append.1 hq with hq | hq
    · have := hnum.out q hq; omega
    · rw [List.mem_singleton.1 hq]; show 1 * 2 ^ 22 ≤ 8796093022208; decide
  case round =>
    obtain ⟨f, ps, told, v1, v6, rfl, hme, hR⟩ := hrel
    clear hT bu11 hO11 hA11 z11 zz11 z10
    have hsl := hR.own.sl
    obtain ⟨g, c, rfl, hBg, hgw⟩ := hR.own.1.form hR.pos
    have hA := hR.at_
    have hcur : Below wr.heap.size wr wr := Below.refl _ _
    have e0 := Ext.refl wr
    have cA := fun (w' : World) (hw : Ext wr w') => (hA.below hw).c1.1
    have hpos := hR.pos
    by_cases h2 : ps.length < 2
    · have h1 : Hid (ps.length = 1) := by unfold Hid; omega
      have hend := merge_end (f := f) (ps := ps) (told := told) (fun h => by omega)
      have hq : decide ((2 : Int) ≤ ps.length) = false := decide_eq_false (by omega)
      have hfin : Hid ((ps, told) = (partsN (n + 1) (nextN n ds x), toldN n ds x)) := hend.symm.trans (hme.out.trans hmerge.out)
      clear hend
      -- DEV
      go_wp2_with fail
      refine wp_region_E (by kernel_rfl) ?_
      replace hcur := below_via hcur (ext_drew _)
      replace e0 := Ext.trans e0 (ext_drew _)
      refine wpAnyE_take (i := 0) (v := ?_) (some 36) rfl rfl (by kernel_rfl) (by kernel_rfl) (by kernel_rfl) (fun _ _ _ h => h) ?_ ?_
      rotate_left 1
      · (refine Or.inl ⟨by rfl, ?_⟩; intro w' hw'; have hq := below_via hcur hw'; have hq_e0 := Ext.trans e0 hw'; (try go_simp); (try rfl); done)
      try simp only [Act.put, List.setIfInBounds_toArray, List.set_cons_zero, List.set_cons_succ]
      refine wpAnyE_take (i := 1) (v := ?_) (some 37) rfl rfl (by kernel_rfl) (by kernel_rfl) (by kernel_rfl) (fun _ _ _ h => h) ?_ ?_
      rotate_left 1
      · (refine Or.inl ⟨by rfl, ?_⟩; intro w' hw'; have hq := below_via hcur hw'; have hq_e0 := Ext.trans e0 hw'; (try go_simp); (try rfl); done)
      try simp only [Act.put, List.setIfInBounds_toArray, List.set_cons_zero, List.set_cons_succ]
      refine wpAnyE_take (i := 2) (v := ?_) (some 38) rfl rfl (by kernel_rfl) (by kernel_rfl) (by kernel_rfl) (fun _ _ _ h => h) ?_ ?_
      rotate_left 1
      · (refine Or.inl ⟨by rfl, ?_⟩; intro w' hw'; have hq := below_via hcur hw'; have hq_e0 := Ext.trans e0 hw'; (try go_simp); (try rfl); done)
      try simp only [Act.put, List.setIfInBounds_toArray, List.set_cons_zero, List.set_cons_succ]
      refine wpAnyE_take (i := 3) (v := ?_) (some 39) rfl rfl (by kernel_rfl) (by kernel_rfl) (by kernel_rfl) (fun _ _ _ h => h) ?_ ?_
      rotate_left 1
      · (refine Or.inl ⟨by rfl, ?_⟩; intro w' hw'; have hq := below_via hcur hw'; have hq_e0 := Ext.trans e0 hw'; have hcl := cA _ hq_e0; (try go_simp); (try rfl); done)
      try simp only [Act.put, List.setIfInBounds_toArray, List.set_cons_zero, List.set_cons_succ]
      refine wpAnyE_take (i := 4) (v := ?_) (some 40) rfl rfl (by kernel_rfl) (by kernel_rfl) (by kernel_rfl) (fun _ _ _ h => h) ?_ ?_
      rotate_left 1
      · (refine Or.inl ⟨by rfl, ?_⟩; intro w' hw'; have hq := below_via hcur hw'; have hq_e0 := Ext.trans e0 hw'; (try go_simp); (try rfl); done)
      try simp only [Act.put, List.setIfInBounds_toArray, List.set_cons_zero, List.set_cons_succ]
      refine wpAnyE_take (i := 5) (v := ?_) (some 41) rfl rfl (by kernel_rfl) (by kernel_rfl) (by kernel_rfl) (fun _ _ _ h => h) ?_ ?_
      rotate_left 1
      · (refine Or.inl ⟨by rfl, ?_⟩; intro w' hw'; have hq := below_via hcur hw'; have hq_e0 := Ext.trans e0 hw'; (try go_simp); (try rfl); done)
      try simp only [Act.put, List.setIfInBounds_toArray, List.set_cons_zero, List.set_cons_succ]
      refine wpAnyE_take (i := 6) (v := ?_) (some 42) rfl rfl (by kernel_rfl) (by kernel_rfl) (by kernel_rfl) (fun _ _ _ h => h) ?_ ?_
      rotate_left 1
      · (refine Or.inl ⟨by rfl, ?_⟩; intro w' hw'; have hq := below_via hcur hw'; have hq_e0 := Ext.trans e0 hw'; (try go_simp); (try rfl); done)
      try simp only [Act.put, List.setIfInBounds_toArray, List.set_cons_zero, List.set_cons_succ]
      refine wpAnyE_take (i := 7) (v := undef) (some 43) rfl rfl (by kernel_rfl) (by kernel_rfl) (by kernel_rfl) (fun _ _ _ h => h) (Or.inr ⟨by rfl, rfl⟩) ?_
      try simp only [Act.put, List.setIfInBounds_toArray, List.set_cons_zero, List.set_cons_succ]
      refine wpAnyE_take (i := 8) (v := undef) (some 44) rfl rfl (by kernel_rfl) (by kernel_rfl) (by kernel_rfl) (fun _ _ _ h => h) (Or.inr ⟨by rfl, rfl⟩) ?_
      try simp only [Act.put, List.setIfInBounds_toArray, List.set_cons_zero, List.set_cons_succ]
      refine wpAnyE_take (i := 9) (v := undef) (some 45) rfl rfl (by kernel_rfl) (by kernel_rfl) (by kernel_rfl) (fun _ _ _ h => h) (Or.inr ⟨by rfl, rfl⟩) ?_
      try simp only [Act.put, List.setIfInBounds_toArray, List.set_cons_zero, List.set_cons_succ]
      refine wpAnyE_take (i := 10) (v := undef) (some 46) rfl rfl (by kernel_rfl) (by kernel_rfl) (by kernel_rfl) (fun _ _ _ h => h) (Or.inr ⟨by rfl, rfl⟩) ?_
      try simp only [Act.put, List.setIfInBounds_toArray, List.set_cons_zero, List.set_cons_succ]
      refine wpAnyE_take (i := 11) (v := undef) (some 47) rfl rfl (by kernel_rfl) (by kernel_rfl) (by kernel_rfl) (fun _ _ _ h => h) (Or.inr ⟨by rfl, rfl⟩) ?_
      try simp only [Act.put, List.setIfInBounds_toArray, List.set_cons_zero, List.set_cons_succ]
      refine wpAnyE_take (i := 12) (v := undef) (some 48) rfl rfl (by kernel_rfl) (by kernel_rfl) (by kernel_rfl) (fun _ _ _ h => h) (Or.inr ⟨by rfl, rfl⟩) ?_
      try simp only [Act.put, List.setIfInBounds_toArray, List.set_cons_zero, List.set_cons_succ]
      refine wpAnyE_take (i := 13) (v := undef) (some 49) rfl rfl (by kernel_rfl) (by kernel_rfl) (by kernel_rfl) (fun _ _ _ h => h) (Or.inr ⟨by rfl, rfl⟩) ?_
      try simp only [Act.put, List.setIfInBounds_toArray, List.set_cons_zero, List.set_cons_succ]
      refine wpAnyE_take (i := 14) (v := undef) (some 50) rfl rfl (by kernel_rfl) (by kernel_rfl) (by kernel_rfl) (fun _ _ _ h => h) (Or.inr ⟨by rfl, rfl⟩) ?_
      try simp only [Act.put, List.setIfInBounds_toArray, List.set_cons_zero, List.set_cons_succ]
      refine wpAnyE_take (i := 15) (v := undef) (some 51) rfl rfl (by kernel_rfl) (by kernel_rfl) (by kernel_rfl) (fun _ _ _ h => h) (Or.inr ⟨by rfl, rfl⟩) ?_
      try simp only [Act.put, List.setIfInBounds_toArray, List.set_cons_zero, List.set_cons_succ]
      refine wpAnyE_take (i := 16) (v := undef) (some 52) rfl rfl (by kernel_rfl) (by kernel_rfl) (by kernel_rfl) (fun _ _ _ h => h) (Or.inr ⟨by rfl, rfl⟩) ?_
      try simp only [Act.put, List.setIfInBounds_toArray, List.set_cons_zero, List.set_cons_succ]
      refine wpAnyE_take (i := 17) (v := undef) (some 53) rfl rfl (by kernel_rfl) (by kernel_rfl) (by kernel_rfl) (fun _ _ _ h => h) (Or.inr ⟨by rfl, rfl⟩) ?_
      try simp only [Act.put, List.setIfInBounds_toArray, List.set_cons_zero, List.set_cons_succ]
      refine wpAnyE_take (i := 18) (v := undef) (some 54) rfl rfl (by kernel_rfl) (by kernel_rfl) (by kernel_rfl) (fun _ _ _ h => h) (Or.inr ⟨by rfl, rfl⟩) ?_
      try simp only [Act.put, List.setIfInBounds_toArray, List.set_cons_zero, List.set_cons_succ]
      refine wpAnyE_take (i := 19) (v := undef) (some 55) rfl rfl (by kernel_rfl) (by kernel_rfl) (by kernel_rfl) (fun _ _ _ h => h) (Or.inr ⟨by rfl, rfl⟩) ?_
      try simp only [Act.put, List.setIfInBounds_toArray, List.set_cons_zero, List.set_cons_succ]
      refine wpAnyE_take (i := 20) (v := undef) (some 56) rfl rfl (by kernel_rfl) (by kernel_rfl) (by kernel_rfl) (fun _ _ _ h => h) (Or.inr ⟨by rfl, rfl⟩) ?_
      try simp only [Act.put, List.setIfInBounds_toArray, List.set_cons_zero, List.set_cons_succ]
      refine wpAnyE_take (i := 21) (v := undef) (some 57) rfl rfl (by kernel_rfl) (by kernel_rfl) (by kernel_rfl) (fun _ _ _ h => h) (Or.inr ⟨by rfl, rfl⟩) ?_
      try simp only [Act.put, List.setIfInBounds_toArray, List.set_cons_zero, List.set_cons_succ]
      refine wpAnyE_take (i := 22) (v := undef) (some 58) rfl rfl (by kernel_rfl) (by kernel_rfl) (by kernel_rfl) (fun _ _ _ h => h) (Or.inr ⟨by rfl, rfl⟩) ?_
      try simp only [Act.put, List.setIfInBounds_toArray, List.set_cons_zero, List.set_cons_succ]
      refine wpAnyE_take (i := 23) (v := undef) (some 59) rfl rfl (by kernel_rfl) (by kernel_rfl) (by kernel_rfl) (fun _ _ _ h => h) (Or.inr ⟨by rfl, rfl⟩) ?_
      try simp only [Act.put, List.setIfInBounds_toArray, List.set_cons_zero, List.set_cons_succ]
      refine wpAnyE_take (i := 24) (v := undef) (some 60) rfl rfl (by kernel_rfl) (by kernel_rfl) (by kernel_rfl) (fun _ _ _ h => h) (Or.inr ⟨by rfl, rfl⟩) ?_
      try simp only [Act.put, List.setIfInBounds_toArray, List.set_cons_zero, List.set_cons_succ]
      refine wpAnyE_take (i := 25) (v := undef) (some 61) rfl rfl (by kernel_rfl) (by kernel_rfl) (by kernel_rfl) (fun _ _ _ h => h) (Or.inr ⟨by rfl, rfl⟩) ?_
      try simp only [Act.put, List.setIfInBounds_toArray, List.set_cons_zero, List.set_cons_succ]
      refine wpAnyE_take (i := 26) (v := undef) (some 62) rfl rfl (by kernel_rfl) (by kernel_rfl) (by kernel_rfl) (fun _ _ _ h => h) (Or.inr ⟨by rfl, rfl⟩) ?_
      try simp only [Act.put, List.setIfInBounds_toArray, List.set_cons_zero, List.set_cons_succ]
      refine wpAnyE_take (i := 27) (v := undef) (some 63) rfl rfl (by kernel_rfl) (by kernel_rfl) (by kernel_rfl) (fun _ _ _ h => h) (Or.inr ⟨by rfl, rfl⟩) ?_
      try simp only [Act.put, List.setIfInBounds_toArray, List.set_cons_zero, List.set_cons_succ]
      refine wpAnyE_take (i := 28) (v := undef) (some 64) rfl rfl (by kernel_rfl) (by kernel_rfl) (by kernel_rfl) (fun _ _ _ h => h) (Or.inr ⟨by rfl, rfl⟩) ?_
      try simp only [Act.put, List.setIfInBounds_toArray, List.set_cons_zero, List.set_cons_succ]
      refine wpAnyE_take (i := 29) (v := undef) (some 65) rfl rfl (by kernel_rfl) (by kernel_rfl) (by kernel_rfl) (fun _ _ _ h => h) (Or.inr ⟨by rfl, rfl⟩) ?_
      try simp only [Act.put, List.setIfInBounds_toArray, List.set_cons_zero, List.set_cons_succ]
      refine wpAnyE_take (i := 30) (v := undef) (some 66) rfl rfl (by kernel_rfl) (by kernel_rfl) (by kernel_rfl) (fun _ _ _ h => h) (Or.inr ⟨by rfl, rfl⟩) ?_
      try simp only [Act.put, List.setIfInBounds_toArray, List.set_cons_zero, List.set_cons_succ]
      refine wpAnyE_take (i := 31) (v := undef) (some 67) rfl rfl (by kernel_rfl) (by kernel_rfl) (by kernel_rfl) (fun _ _ _ h => h) (Or.inr ⟨by rfl, rfl⟩) ?_
      try simp only [Act.put, List.setIfInBounds_toArray, List.set_cons_zero, List.set_cons_succ]
      refine wpAnyE_take (i := 32) (v := undef) (some 68) rfl rfl (by kernel_rfl) (by kernel_rfl) (by kernel_rfl) (fun _ _ _ h => h) (Or.inr ⟨by rfl, rfl⟩) ?_
      try simp only [Act.put, List.setIfInBounds_toArray, List.set_cons_zero, List.set_cons_succ]
      refine wpAnyE_take (i := 33) (v := undef) (some 69) rfl rfl (by kernel_rfl) (by kernel_rfl) (by kernel_rfl) (fun _ _ _ h => h) (Or.inr ⟨by rfl, rfl⟩) ?_
      try simp only [Act.put, List.setIfInBounds_toArray, List.set_cons_zero, List.set_cons_succ]
      refine wpAnyE_take (i := 34) (v := ?_) (some 70) rfl rfl (by kernel_rfl) (by kernel_rfl) (by kernel_rfl) (fun _ _ _ h => h) ?_ ?_
      rotate_left 1
      · (refine Or.inl ⟨by rfl, ?_⟩; intro w' hw'; have hq := below_via hcur hw'; have hq_e0 := Ext.trans e0 hw'; (try go_simp); (try rfl); done)
      try simp only [Act.put, List.setIfInBounds_toArray, List.set_cons_zero, List.set_cons_succ]
      refine wpAnyE_done (by kernel_rfl) ?_ _
      go_wp2_with fail
      go_ret2
      obtain ⟨f1, f2⟩ := Prod.mk.inj hfin.out
      rw [← f1, ← f2]
      exact ⟨_, _, rfl, (hR.tld.below (ext_drew wr)).mono (by omega), ⟨hR.at_.below (ext_drew _), hR.own.below (ext_drew _), h.ge⟩, hR.but.drew⟩
      -- /DEV
    · obtain ⟨M, hM⟩ : ∃ M, Hid (ps.length = M + 2) := ⟨ps.length - 2, by unfold Hid; omega⟩
      obtain ⟨J, hJ⟩ : ∃ J, Hid (J = M + 1) := ⟨M + 1, rfl⟩
      have hq : decide ((2 : Int) ≤ ps.length) = true := decide_eq_true (by omega)
      have hle : ps.length ≤ 22 := Nat.le_trans hR.fuel hR.fl
      have w1 : IntKind.i64.wrap ((ps.length : Int) - 1) = (J : Int) := by rw [IntKind.wrap_i64]; have := hM.out; have := hJ.out; omega
      have w2 : IntKind.i64.wrap ((ps.length : Int) - 2) = (M : Int) := by rw [IntKind.wrap_i64]; have := hM.out; omega
      have w3 : RowKit.wrap64 ((ps.length : Int) - 1) = (J : Int) := by unfold RowKit.wrap64; have := hM.out; have := hJ.out; omega
      have w4 : RowKit.wrap64 ((ps.length : Int) - 2) = (M : Int) := by unfold RowKit.wrap64; have := hM.out; omega
      have j1 : (J : Int) < ps.length := by have := hM.out; have := hJ.out; omega
      have m1 : (M : Int) < ps.length := by have := hM.out; omega
      have j0 : (0 : Int) ≤ J := by omega
      have m0 : (0 : Int) ≤ M := by omega
      have rJ : ∀ w' : World, Below wr.heap.size wr w' → Rc w' (some ⟨g, J * 33, none⟩) (ptC (ps.getD J noP).1 (ps.getD J noP).2) := fun w' hw => by
        obtain ⟨_, e, hh⟩ := (hsl.below hw).get (i := J) (by have := hM.out; have := hJ.out; omega)
        cases e; rw [Addr.add_lit, Nat.zero_add] at hh; exact hh
      have rM : ∀ w' : World, Below wr.heap.size wr w' → Rc w' (some ⟨g, M * 33, none⟩) (ptC (ps.getD M noP).1 (ps.getD M noP).2) := fun w' hw => by
        obtain ⟨_, e, hh⟩ := (hsl.below hw).get (i := M) (by have := hM.out; omega)
        cases e; rw [Addr.add_lit, Nat.zero_add] at hh; exact hh
      have ha32 : (ps.getD M noP).2.length = 32 := hsl.len2 (by have := hM.out; omega)
      have hb32 : (ps.getD J noP).2.length = 32 := hsl.len2 (by have := hM.out; have := hJ.out; omega)
      have hna : (ps.getD M noP).1 * 2 ^ f ≤ 8796093022208 := hR.num _ (by rw [List.getD_eq_getElem?_getD, List.getElem?_eq_getElem (show M < ps.length by have := hM.out; omega)]; exact List.getElem_mem _)
      have hnb : (ps.getD J noP).1 * 2 ^ f ≤ 8796093022208 := hR.num _ (by rw [List.getD_eq_getElem?_getD, List.getElem?_eq_getElem (show J < ps.length by have := hM.out; have := hJ.out; omega)]; exact List.getElem_mem _)
      have hstep : ∀ f', f = f' + 1 → (ps.getD J noP).1 = (ps.getD M noP).1 → mergeN f ps told = mergeN f' (ps.take M ++ [((ps.getD M noP).1 + (ps.getD J noP).1, nodeL (ps.getD M noP).2 (ps.getD J noP).2)]) (told ++ [nodeL (ps.getD M noP).2 (ps.getD J noP).2]) := fun f' hf he => by
        have := merge_step (f := f') (ps := ps) (told := told) (by have := hM.out; omega) (by rw [show ps.length - 1 = J by have := hM.out; have := hJ.out; omega, show ps.length - 2 = M by have := hM.out; omega]; exact he)
        rw [show ps.length - 1 = J by have := hM.out; have := hJ.out; omega, show ps.length - 2 = M by have := hM.out; omega] at this
        rw [hf]; exact this
      have hend : (ps.getD J noP).1 ≠ (ps.getD M noP).1 → mergeN f ps told = (ps, told) := fun hne => merge_end fun hh => hne (by
        have := hh.2
        rwa [show ps.length - 1 = J by have := hM.out; have := hJ.out; omega, show ps.length - 2 = M by have := hM.out; omega] at this)
      generalize (ps.getD M noP).1 = na at *
      generalize (ps.getD J noP).1 = nb at *
      generalize (ps.getD M noP).2 = da at *
      generalize (ps.getD J noP).2 = db at *
      have cJ := fun w' hw => ptC_num (rJ w' hw)
      have cM := fun w' hw => ptC_num (rM w' hw)
      replace hstep : Hid _ := hstep
      replace hend : Hid _ := hend
      obtain ⟨bb, hbb⟩ : ∃ bb, ((nb : Int) == na) = bb := ⟨_, rfl⟩
      go_upto_region 6 with fail
      go_cut [70] (fun s70 wx => s70 = .bool bb ∧ Ext wr wx)
      case first =>
        -- DEV
        refine wp_region_E (by kernel_rfl) ?_
        replace hcur := below_via hcur (ext_drew _)
        replace e0 := Ext.trans e0 (ext_drew _)
        refine wpAnyE_take (i := 0) (v := ?_) (some 36) rfl rfl (by kernel_rfl) (by kernel_rfl) (by kernel_rfl) (fun _ _ _ h => h) ?_ ?_
        rotate_left 1
        · (refine Or.inl ⟨by rfl, ?_⟩; intro w' hw'; have hq := below_via hcur hw'; have hq_e0 := Ext.trans e0 hw'; (try go_simp); (try rfl); done)
        try simp only [Act.put, List.setIfInBounds_toArray, List.set_cons_zero, List.set_cons_succ]
        refine wpAnyE_take (i := 1) (v := ?_) (some 37) rfl rfl (by kernel_rfl) (by kernel_rfl) (by kernel_rfl) (fun _ _ _ h => h) ?_ ?_
        rotate_left 1
        · (refine Or.inl ⟨by rfl, ?_⟩; intro w' hw'; have hq := below_via hcur hw'; have hq_e0 := Ext.trans e0 hw'; (try go_simp); (try rfl); done)
        try simp only [Act.put, List.setIfInBounds_toArray, List.set_cons_zero, List.set_cons_succ]
        refine wpAnyE_take (i := 2) (v := ?_) (some 38) rfl rfl (by kernel_rfl) (by kernel_rfl) (by kernel_rfl) (fun _ _ _ h => h) ?_ ?_
        rotate_left 1
        · (refine Or.inl ⟨by rfl, ?_⟩; intro w' hw'; have hq := below_via hcur hw'; have hq_e0 := Ext.trans e0 hw'; (try go_simp); (try rfl); done)
        try simp only [Act.put, List.setIfInBounds_toArray, List.set_cons_zero, List.set_cons_succ]
        refine wpAnyE_take (i := 3) (v := ?_) (some 39) rfl rfl (by kernel_rfl) (by kernel_rfl) (by kernel_rfl) (fun _ _ _ h => h) ?_ ?_
        rotate_left 1
        · (refine Or.inl ⟨by rfl, ?_⟩; intro w' hw'; have hq := below_via hcur hw'; have hq_e0 := Ext.trans e0 hw'; have hcl := cA _ hq_e0; (try go_simp); (try rfl); done)
        try simp only [Act.put, List.setIfInBounds_toArray, List.set_cons_zero, List.set_cons_succ]
        refine wpAnyE_take (i := 4) (v := ?_) (some 40) rfl rfl (by kernel_rfl) (by kernel_rfl) (by kernel_rfl) (fun _ _ _ h => h) ?_ ?_
        rotate_left 1
        · (refine Or.inl ⟨by rfl, ?_⟩; intro w' hw'; have hq := below_via hcur hw'; have hq_e0 := Ext.trans e0 hw'; (try go_simp); (try rfl); done)
        try simp only [Act.put, List.setIfInBounds_toArray, List.set_cons_zero, List.set_cons_succ]
        refine wpAnyE_take (i := 5) (v := ?_) (some 41) rfl rfl (by kernel_rfl) (by kernel_rfl) (by kernel_rfl) (fun _ _ _ h => h) ?_ ?_
        rotate_left 1
        · (refine Or.inl ⟨by rfl, ?_⟩; intro w' hw'; have hq := below_via hcur hw'; have hq_e0 := Ext.trans e0 hw'; (try go_simp); (try rfl); done)
        try simp only [Act.put, List.setIfInBounds_toArray, List.set_cons_zero, List.set_cons_succ]
        refine wpAnyE_take (i := 6) (v := ?_) (some 42) rfl rfl (by kernel_rfl) (by kernel_rfl) (by kernel_rfl) (fun _ _ _ h => h) ?_ ?_
        rotate_left 1
        · (refine Or.inl ⟨by rfl, ?_⟩; intro w' hw'; have hq := below_via hcur hw'; have hq_e0 := Ext.trans e0 hw'; (try go_simp); (try rfl); done)
        try simp only [Act.put, List.setIfInBounds_toArray, List.set_cons_zero, List.set_cons_succ]
        refine wpAnyE_take (i := 7) (v := ?_) (some 43) rfl rfl (by kernel_rfl) (by kernel_rfl) (by kernel_rfl) (fun _ _ _ h => h) ?_ ?_
        rotate_left 1
        · (refine Or.inl ⟨by rfl, ?_⟩; intro w' hw'; have hq := below_via hcur hw'; have hq_e0 := Ext.trans e0 hw'; (try go_simp); (try rfl); done)
        try simp only [Act.put, List.setIfInBounds_toArray, List.set_cons_zero, List.set_cons_succ]
        refine wpAnyE_take (i := 8) (v := ?_) (some 44) rfl rfl (by kernel_rfl) (by kernel_rfl) (by kernel_rfl) (fun _ _ _ h => h) ?_ ?_
        rotate_left 1
        · (refine Or.inl ⟨by rfl, ?_⟩; intro w' hw'; have hq := below_via hcur hw'; have hq_e0 := Ext.trans e0 hw'; (try go_simp); (try rfl); done)
        try simp only [Act.put, List.setIfInBounds_toArray, List.set_cons_zero, List.set_cons_succ]
        refine wpAnyE_take (i := 9) (v := ?_) (some 45) rfl rfl (by kernel_rfl) (by kernel_rfl) (by kernel_rfl) (fun _ _ _ h => h) ?_ ?_
        rotate_left 1
        · (refine Or.inl ⟨by rfl, ?_⟩; intro w' hw'; have hq := below_via hcur hw'; have hq_e0 := Ext.trans e0 hw'; (try go_simp); (try rfl); done)
        try simp only [Act.put, List.setIfInBounds_toArray, List.set_cons_zero, List.set_cons_succ]
        refine wpAnyE_take (i := 10) (v := ?_) (some 46) rfl rfl (by kernel_rfl) (by kernel_rfl) (by kernel_rfl) (fun _ _ _ h => h) ?_ ?_
        rotate_left 1
        · (refine Or.inl ⟨by rfl, ?_⟩; intro w' hw'; have hq := below_via hcur hw'; have hq_e0 := Ext.trans e0 hw'; have hcl := cA _ hq_e0; (try go_simp); (try rfl); done)
        try simp only [Act.put, List.setIfInBounds_toArray, List.set_cons_zero, List.set_cons_succ]
        refine wpAnyE_take (i := 11) (v := ?_) (some 47) rfl rfl (by kernel_rfl) (by kernel_rfl) (by kernel_rfl) (fun _ _ _ h => h) ?_ ?_
        rotate_left 1
        · (refine Or.inl ⟨by rfl, ?_⟩; intro w' hw'; have hq := below_via hcur hw'; have hq_e0 := Ext.trans e0 hw'; (try go_simp); (try rfl); done)
        try simp only [Act.put, List.setIfInBounds_toArray, List.set_cons_zero, List.set_cons_succ]
        refine wpAnyE_take (i := 12) (v := ?_) (some 48) rfl rfl (by kernel_rfl) (by kernel_rfl) (by kernel_rfl) (fun _ _ _ h => h) ?_ ?_
        rotate_left 1
        · (refine Or.inl ⟨by rfl, ?_⟩; intro w' hw'; have hq := below_via hcur hw'; have hq_e0 := Ext.trans e0 hw'; (try go_simp); (try rfl); done)
        try simp only [Act.put, List.setIfInBounds_toArray, List.set_cons_zero, List.set_cons_succ]
        refine wpAnyE_take (i := 13) (v := ?_) (some 49) rfl rfl (by kernel_rfl) (by kernel_rfl) (by kernel_rfl) (fun _ _ _ h => h) ?_ ?_
        rotate_left 1
        · (refine Or.inl ⟨by rfl, ?_⟩; intro w' hw'; have hq := below_via hcur hw'; have hq_e0 := Ext.trans e0 hw'; (try go_simp); (try rfl); done)
        try simp only [Act.put, List.setIfInBounds_toArray, List.set_cons_zero, List.set_cons_succ]
        refine wpAnyE_take (i := 14) (v := ?_) (some 50) rfl rfl (by kernel_rfl) (by kernel_rfl) (by kernel_rfl) (fun _ _ _ h => h) ?_ ?_
        rotate_left 1
        · (refine Or.inl ⟨by rfl, ?_⟩; intro w' hw'; have hq := below_via hcur hw'; have hq_e0 := Ext.trans e0 hw'; have hcl := cA _ hq_e0; (try go_simp); (try rfl); done)
        try simp only [Act.put, List.setIfInBounds_toArray, List.set_cons_zero, List.set_cons_succ]
        refine wpAnyE_take (i := 15) (v := ?_) (some 51) rfl rfl (by kernel_rfl) (by kernel_rfl) (by kernel_rfl) (fun _ _ _ h => h) ?_ ?_
        rotate_left 1
        · (refine Or.inl ⟨by rfl, ?_⟩; intro w' hw'; have hq := below_via hcur hw'; have hq_e0 := Ext.trans e0 hw'; (try go_simp); (try rfl); done)
        try simp only [Act.put, List.setIfInBounds_toArray, List.set_cons_zero, List.set_cons_succ]
        refine wpAnyE_take (i := 16) (v := ?_) (some 52) rfl rfl (by kernel_rfl) (by kernel_rfl) (by kernel_rfl) (fun _ _ _ h => h) ?_ ?_
        rotate_left 1
        · (refine Or.inl ⟨by rfl, ?_⟩; intro w' hw'; have hq := below_via hcur hw'; have hq_e0 := Ext.trans e0 hw'; (try go_simp); (try rfl); done)
        try simp only [Act.put, List.setIfInBounds_toArray, List.set_cons_zero, List.set_cons_succ]
        refine wpAnyE_take (i := 17) (v := ?_) (some 53) rfl rfl (by kernel_rfl) (by kernel_rfl) (by kernel_rfl) (fun _ _ _ h => h) ?_ ?_
        rotate_left 1
        · (refine Or.inl ⟨by rfl, ?_⟩; intro w' hw'; have hq := below_via hcur hw'; have hq_e0 := Ext.trans e0 hw'; (try go_simp); (try rfl); done)
        try simp only [Act.put, List.setIfInBounds_toArray, List.set_cons_zero, List.set_cons_succ]
        refine wpAnyE_take (i := 18) (v := ?_) (some 54) rfl rfl (by kernel_rfl) (by kernel_rfl) (by kernel_rfl) (fun _ _ _ h => h) ?_ ?_
        rotate_left 1
        · (refine Or.inl ⟨by rfl, ?_⟩; intro w' hw'; have hq := below_via hcur hw'; have hq_e0 := Ext.trans e0 hw'; (try go_simp); (try rfl); done)
        try simp only [Act.put, List.setIfInBounds_toArray, List.set_cons_zero, List.set_cons_succ]
        refine wpAnyE_take (i := 19) (v := ?_) (some 55) rfl rfl (by kernel_rfl) (by kernel_rfl) (by kernel_rfl) (fun _ _ _ h => h) ?_ ?_
        rotate_left 1
        · (refine Or.inl ⟨by rfl, ?_⟩; intro w' hw'; have hq := below_via hcur hw'; have hq_e0 := Ext.trans e0 hw'; have hcl := cJ _ hq; (try go_simp); (try rfl); done)
        try simp only [Act.put, List.setIfInBounds_toArray, List.set_cons_zero, List.set_cons_succ]
        refine wpAnyE_take (i := 20) (v := ?_) (some 56) rfl rfl (by kernel_rfl) (by kernel_rfl) (by kernel_rfl) (fun _ _ _ h => h) ?_ ?_
        rotate_left 1
        · (refine Or.inl ⟨by rfl, ?_⟩; intro w' hw'; have hq := below_via hcur hw'; have hq_e0 := Ext.trans e0 hw'; (try go_simp); (try rfl); done)
        try simp only [Act.put, List.setIfInBounds_toArray, List.set_cons_zero, List.set_cons_succ]
        refine wpAnyE_take (i := 21) (v := ?_) (some 57) rfl rfl (by kernel_rfl) (by kernel_rfl) (by kernel_rfl) (fun _ _ _ h => h) ?_ ?_
        rotate_left 1
        · (refine Or.inl ⟨by rfl, ?_⟩; intro w' hw'; have hq := below_via hcur hw'; have hq_e0 := Ext.trans e0 hw'; (try go_simp); (try rfl); done)
        try simp only [Act.put, List.setIfInBounds_toArray, List.set_cons_zero, List.set_cons_succ]
        refine wpAnyE_take (i := 22) (v := ?_) (some 58) rfl rfl (by kernel_rfl) (by kernel_rfl) (by kernel_rfl) (fun _ _ _ h => h) ?_ ?_
        rotate_left 1
        · (refine Or.inl ⟨by rfl, ?_⟩; intro w' hw'; have hq := below_via hcur hw'; have hq_e0 := Ext.trans e0 hw'; (try go_simp); (try rfl); done)
        try simp only [Act.put, List.setIfInBounds_toArray, List.set_cons_zero, List.set_cons_succ]
        refine wpAnyE_take (i := 23) (v := ?_) (some 59) rfl rfl (by kernel_rfl) (by kernel_rfl) (by kernel_rfl) (fun _ _ _ h => h) ?_ ?_
        rotate_left 1
        · (refine Or.inl ⟨by rfl, ?_⟩; intro w' hw'; have hq := below_via hcur hw'; have hq_e0 := Ext.trans e0 hw'; have hcl := cA _ hq_e0; (try go_simp); (try rfl); done)
        try simp only [Act.put, List.setIfInBounds_toArray, List.set_cons_zero, List.set_cons_succ]
        refine wpAnyE_take (i := 24) (v := ?_) (some 60) rfl rfl (by kernel_rfl) (by kernel_rfl) (by kernel_rfl) (fun _ _ _ h => h) ?_ ?_
        rotate_left 1
        · (refine Or.inl ⟨by rfl, ?_⟩; intro w' hw'; have hq := below_via hcur hw'; have hq_e0 := Ext.trans e0 hw'; (try go_simp); (try rfl); done)
        try simp only [Act.put, List.setIfInBounds_toArray, List.set_cons_zero, List.set_cons_succ]
        refine wpAnyE_take (i := 25) (v := ?_) (some 61) rfl rfl (by kernel_rfl) (by kernel_rfl) (by kernel_rfl) (fun _ _ _ h => h) ?_ ?_
        rotate_left 1
        · (refine Or.inl ⟨by rfl, ?_⟩; intro w' hw'; have hq := below_via hcur hw'; have hq_e0 := Ext.trans e0 hw'; (try go_simp); (try rfl); done)
        try simp only [Act.put, List.setIfInBounds_toArray, List.set_cons_zero, List.set_cons_succ]
        refine wpAnyE_take (i := 26) (v := ?_) (some 62) rfl rfl (by kernel_rfl) (by kernel_rfl) (by kernel_rfl) (fun _ _ _ h => h) ?_ ?_
        rotate_left 1
        · (refine Or.inl ⟨by rfl, ?_⟩; intro w' hw'; have hq := below_via hcur hw'; have hq_e0 := Ext.trans e0 hw'; (try go_simp); (try rfl); done)
        try simp only [Act.put, List.setIfInBounds_toArray, List.set_cons_zero, List.set_cons_succ]
        refine wpAnyE_take (i := 27) (v := ?_) (some 63) rfl rfl (by kernel_rfl) (by kernel_rfl) (by kernel_rfl) (fun _ _ _ h => h) ?_ ?_
        rotate_left 1
        · (refine Or.inl ⟨by rfl, ?_⟩; intro w' hw'; have hq := below_via hcur hw'; have hq_e0 := Ext.trans e0 hw'; have hcl := cA _ hq_e0; (try go_simp); (try rfl); done)
        try simp only [Act.put, List.setIfInBounds_toArray, List.set_cons_zero, List.set_cons_succ]
        refine wpAnyE_take (i := 28) (v := ?_) (some 64) rfl rfl (by kernel_rfl) (by kernel_rfl) (by kernel_rfl) (fun _ _ _ h => h) ?_ ?_
        rotate_left 1
        · (refine Or.inl ⟨by rfl, ?_⟩; intro w' hw'; have hq := below_via hcur hw'; have hq_e0 := Ext.trans e0 hw'; (try go_simp); (try rfl); done)
        try simp only [Act.put, List.setIfInBounds_toArray, List.set_cons_zero, List.set_cons_succ]
        refine wpAnyE_take (i := 29) (v := ?_) (some 65) rfl rfl (by kernel_rfl) (by kernel_rfl) (by kernel_rfl) (fun _ _ _ h => h) ?_ ?_
        rotate_left 1
        · (refine Or.inl ⟨by rfl, ?_⟩; intro w' hw'; have hq := below_via hcur hw'; have hq_e0 := Ext.trans e0 hw'; (try go_simp); (try rfl); done)
        try simp only [Act.put, List.setIfInBounds_toArray, List.set_cons_zero, List.set_cons_succ]
        refine wpAnyE_take (i := 30) (v := ?_) (some 66) rfl rfl (by kernel_rfl) (by kernel_rfl) (by kernel_rfl) (fun _ _ _ h => h) ?_ ?_
        rotate_left 1
        · (refine Or.inl ⟨by rfl, ?_⟩; intro w' hw'; have hq := below_via hcur hw'; have hq_e0 := Ext.trans e0 hw'; (try go_simp); (try rfl); done)
        try simp only [Act.put, List.setIfInBounds_toArray, List.set_cons_zero, List.set_cons_succ]
        refine wpAnyE_take (i := 31) (v := ?_) (some 67) rfl rfl (by kernel_rfl) (by kernel_rfl) (by kernel_rfl) (fun _ _ _ h => h) ?_ ?_
        rotate_left 1
        · (refine Or.inl ⟨by rfl, ?_⟩; intro w' hw'; have hq := below_via hcur hw'; have hq_e0 := Ext.trans e0 hw'; (try go_simp); (try rfl); done)
        try simp only [Act.put, List.setIfInBounds_toArray, List.set_cons_zero, List.set_cons_succ]
        refine wpAnyE_take (i := 32) (v := ?_) (some 68) rfl rfl (by kernel_rfl) (by kernel_rfl) (by kernel_rfl) (fun _ _ _ h => h) ?_ ?_
        rotate_left 1
        · (refine Or.inl ⟨by rfl, ?_⟩; intro w' hw'; have hq := below_via hcur hw'; have hq_e0 := Ext.trans e0 hw'; have hcl := cM _ hq; (try go_simp); (try rfl); done)
        try simp only [Act.put, List.setIfInBounds_toArray, List.set_cons_zero, List.set_cons_succ]
        refine wpAnyE_take (i := 33) (v := ?_) (some 69) rfl rfl (by kernel_rfl) (by kernel_rfl) (by kernel_rfl) (fun _ _ _ h => h) ?_ ?_
        rotate_left 1
        · (refine Or.inl ⟨by rfl, ?_⟩; intro w' hw'; have hq := below_via hcur hw'; have hq_e0 := Ext.trans e0 hw'; (try go_simp); (try rfl); done)
        try simp only [Act.put, List.setIfInBounds_toArray, List.set_cons_zero, List.set_cons_succ]
        refine wpAnyE_take (i := 34) (v := ?_) (some 70) rfl rfl (by kernel_rfl) (by kernel_rfl) (by kernel_rfl) (fun _ _ _ h => h) ?_ ?_
        rotate_left 1
        · (refine Or.inl ⟨by rfl, ?_⟩; intro w' hw'; have hq := below_via hcur hw'; have hq_e0 := Ext.trans e0 hw'; (try go_simp); (try rfl); done)
        try simp only [Act.put, List.setIfInBounds_toArray, List.set_cons_zero, List.set_cons_succ]
        refine wpAnyE_done (by kernel_rfl) ?_ _
        go_wp2_with fail
        go_meet
        exact ⟨by first | rfl | rw [hbb], e0⟩
        -- /DEV
      case rest =>
        obtain ⟨rfl, ex⟩ := hcut
        replace hR := hR.ext ex
        clear w1 w2 w3 w4 cA e0 hcur
        cases bb with
        | false =>
          have hne : nb ≠ na := fun e => by rw [e] at hbb; simp at hbb
          have hfin : Hid ((ps, told) = (partsN (n + 1) (nextN n ds x), toldN n ds x)) := (hend.out hne).symm.trans (hme.out.trans hmerge.out)
          go_wp2_with fail
          go_ret2
          obtain ⟨f1, f2⟩ := Prod.mk.inj hfin.out
          rw [← f1, ← f2]
          exact ⟨_, _, rfl, hR.tld.mono (by omega), ⟨hR.at_, hR.own, h.ge⟩, hR.but⟩
        | true =>
          have he : nb = na := by have h9 : (nb : Int) = na := by simpa using hbb
                                  omega
          subst he
          obtain ⟨f', hf'⟩ : ∃ f', Hid (f = f' + 1) := ⟨f - 1, by have h1 := hR.fuel; have h2 := hM.out; unfold Hid; omega⟩
          have hst := hstep.out f' hf'.out rfl
          have cA := fun (w' : World) (hw : Ext wc w') => (hR.at_.below hw).c1.1
          have rJ' : ∀ w', Ext wc w' → Rc w' (some ⟨g, J * 33, none⟩) (ptC nb db) := fun w' hw => rJ w' (Ext.trans ex hw)
          have rM' : ∀ w', Ext wc w' → Rc w' (some ⟨g, M * 33, none⟩) (ptC nb da) := fun w' hw => rM w' (Ext.trans ex hw)
          have nd := fun w' => rnode_any da db ha32 hb32 w'
          have hyl := nodeL_length da db
          generalize nodeL da db = y at *
          have hsum : nb ≤ 8796093022208 := Nat.le_trans (Nat.le_mul_of_pos_right nb (Nat.two_pow_pos f)) hna
          have hsw : IntKind.u64.wrap ((nb : Int) + nb) = ((nb + nb : Nat) : Int) := by rw [IntKind.wrap_u64]; omega
          clear rJ rM cJ cM hend hstep hbb ex
          replace hst : Hid _ := hst
          replace hna : Hid _ := hna
          replace hnb : Hid _ := hnb
          have w1 : IntKind.i64.wrap ((ps.length : Int) - 1) = (J : Int) := by rw [IntKind.wrap_i64]; have := hM.out; have := hJ.out; omega
          have w2 : IntKind.i64.wrap ((ps.length : Int) - 2) = (M : Int) := by rw [IntKind.wrap_i64]; have := hM.out; omega
          have w3 : RowKit.wrap64 ((ps.length : Int) - 1) = (J : Int) := by unfold RowKit.wrap64; have := hM.out; have := hJ.out; omega
          have w4 : RowKit.wrap64 ((ps.length : Int) - 2) = (M : Int) := by unfold RowKit.wrap64; have := hM.out; omega
          go_upto_region 7 with fail
          go_cut [7, 8] (fun s7 s8 wx => ∃ P7 P8, s7 = .pointer (some ⟨P7, 0, none⟩) ∧ s8 = .pointer (some ⟨P8, 0, none⟩) ∧ RowP wx P7 nb da ∧ RowP wx P8 nb db ∧ Ext wc wx)
          case first =>
            -- DEV
            have hS : Ext wc wc.drew := ext_drew _
            refine wp_region_L (fun w' => Ext wc w') [] (by kernel_rfl) (fun hcl => ?_)
            refine wpAnyL_take (i := 0) (v := ?_) hcl hS (some 71) rfl rfl (by kernel_rfl) (by kernel_rfl) (by kernel_rfl) (fun _ _ _ h => h) (by kernel_rfl) ?_ (fun hcl => ?_)
            rotate_left 1
            · (refine Or.inl ⟨by rfl, ?_⟩; intro w' hw'; (try go_simp); (try rfl); done)
            try simp only [Act.put, List.setIfInBounds_toArray, List.set_cons_zero, List.set_cons_succ]
            refine wpAnyL_take (i := 1) (v := ?_) hcl hS (some 72) rfl rfl (by kernel_rfl) (by kernel_rfl) (by kernel_rfl) (fun _ _ _ h => h) (by kernel_rfl) ?_ (fun hcl => ?_)
            rotate_left 1
            · (refine Or.inl ⟨by rfl, ?_⟩; intro w' hw'; (try go_simp); (try rfl); done)
            try simp only [Act.put, List.setIfInBounds_toArray, List.set_cons_zero, List.set_cons_succ]
            refine wpAnyL_take (i := 2) (v := ?_) hcl hS (some 73) rfl rfl (by kernel_rfl) (by kernel_rfl) (by kernel_rfl) (fun _ _ _ h => h) (by kernel_rfl) ?_ (fun hcl => ?_)
            rotate_left 1
            · (refine Or.inl ⟨by rfl, ?_⟩; intro w' hw'; (try go_simp); (try rfl); done)
            try simp only [Act.put, List.setIfInBounds_toArray, List.set_cons_zero, List.set_cons_succ]
            refine wpAnyL_take (i := 3) (v := ?_) hcl hS (some 74) rfl rfl (by kernel_rfl) (by kernel_rfl) (by kernel_rfl) (fun _ _ _ h => h) (by kernel_rfl) ?_ (fun hcl => ?_)
            rotate_left 1
            · (refine Or.inl ⟨by rfl, ?_⟩; intro w' hw'; have hcl := cA _ hw'; (try go_simp); (try rfl); done)
            try simp only [Act.put, List.setIfInBounds_toArray, List.set_cons_zero, List.set_cons_succ]
            refine wpAnyL_take (i := 4) (v := ?_) hcl hS (some 75) rfl rfl (by kernel_rfl) (by kernel_rfl) (by kernel_rfl) (fun _ _ _ h => h) (by kernel_rfl) ?_ (fun hcl => ?_)
            rotate_left 1
            · (refine Or.inl ⟨by rfl, ?_⟩; intro w' hw'; (try go_simp); (try rfl); done)
            try simp only [Act.put, List.setIfInBounds_toArray, List.set_cons_zero, List.set_cons_succ]
            refine wpAnyL_take (i := 5) (v := ?_) hcl hS (some 76) rfl rfl (by kernel_rfl) (by kernel_rfl) (by kernel_rfl) (fun _ _ _ h => h) (by kernel_rfl) ?_ (fun hcl => ?_)
            rotate_left 1
            · (refine Or.inl ⟨by rfl, ?_⟩; intro w' hw'; (try go_simp); (try rfl); done)
            try simp only [Act.put, List.setIfInBounds_toArray, List.set_cons_zero, List.set_cons_succ]
            refine wpAnyL_take (i := 6) (v := ?_) hcl hS (some 77) rfl rfl (by kernel_rfl) (by kernel_rfl) (by kernel_rfl) (fun _ _ _ h => h) (by kernel_rfl) ?_ (fun hcl => ?_)
            rotate_left 1
            · (refine Or.inl ⟨by rfl, ?_⟩; intro w' hw'; (try go_simp); (try rfl); done)
            try simp only [Act.put, List.setIfInBounds_toArray, List.set_cons_zero, List.set_cons_succ]
            refine wpAnyL_take (i := 7) (v := ?_) hcl hS (some 78) rfl rfl (by kernel_rfl) (by kernel_rfl) (by kernel_rfl) (fun _ _ _ h => h) (by kernel_rfl) ?_ (fun hcl => ?_)
            rotate_left 1
            · (refine Or.inl ⟨by rfl, ?_⟩; intro w' hw'; have hcl := cA _ hw'; (try go_simp); (try rfl); done)
            try simp only [Act.put, List.setIfInBounds_toArray, List.set_cons_zero, List.set_cons_succ]
            refine wpAnyL_take (i := 8) (v := ?_) hcl hS (some 79) rfl rfl (by kernel_rfl) (by kernel_rfl) (by kernel_rfl) (fun _ _ _ h => h) (by kernel_rfl) ?_ (fun hcl => ?_)
            rotate_left 1
            · (refine Or.inl ⟨by rfl, ?_⟩; intro w' hw'; (try go_simp); (try rfl); done)
            try simp only [Act.put, List.setIfInBounds_toArray, List.set_cons_zero, List.set_cons_succ]
            refine wpAnyL_take (i := 9) (v := ?_) hcl hS (some 80) rfl rfl (by kernel_rfl) (by kernel_rfl) (by kernel_rfl) (fun _ _ _ h => h) (by kernel_rfl) ?_ (fun hcl => ?_)
            rotate_left 1
            · (refine Or.inl ⟨by rfl, ?_⟩; intro w' hw'; (try go_simp); (try rfl); done)
            try simp only [Act.put, List.setIfInBounds_toArray, List.set_cons_zero, List.set_cons_succ]
            refine wpAnyL_take (i := 10) (v := ?_) hcl hS (some 81) rfl rfl (by kernel_rfl) (by kernel_rfl) (by kernel_rfl) (fun _ _ _ h => h) (by kernel_rfl) ?_ (fun hcl => ?_)
            rotate_left 1
            · (refine Or.inl ⟨by rfl, ?_⟩; intro w' hw'; (try go_simp); (try rfl); done)
            try simp only [Act.put, List.setIfInBounds_toArray, List.set_cons_zero, List.set_cons_succ]
            refine wpAnyL_take (i := 11) (v := ?_) hcl hS (some 82) rfl rfl (by kernel_rfl) (by kernel_rfl) (by kernel_rfl) (fun _ _ _ h => h) (by kernel_rfl) ?_ (fun hcl => ?_)
            rotate_left 1
            · (refine Or.inl ⟨by rfl, ?_⟩; intro w' hw'; (refine ex_loadP (rM' _ hw') ha32 (.tmp 81) ?_ ?_ <;> rfl))
            try simp only [Act.put, List.setIfInBounds_toArray, List.set_cons_zero, List.set_cons_succ]
            refine wpAnyL_take (i := 12) (v := ?_) hcl hS (some 83) rfl rfl (by kernel_rfl) (by kernel_rfl) (by kernel_rfl) (fun _ _ _ h => h) (by kernel_rfl) ?_ (fun hcl => ?_)
            rotate_left 1
            · (refine Or.inl ⟨by rfl, ?_⟩; intro w' hw'; (try go_simp); (try rfl); done)
            try simp only [Act.put, List.setIfInBounds_toArray, List.set_cons_zero, List.set_cons_succ]
            refine wpAnyL_take (i := 13) (v := ?_) hcl hS (some 84) rfl rfl (by kernel_rfl) (by kernel_rfl) (by kernel_rfl) (fun _ _ _ h => h) (by kernel_rfl) ?_ (fun hcl => ?_)
            rotate_left 1
            · (refine Or.inl ⟨by rfl, ?_⟩; intro w' hw'; (try go_simp); (try rfl); done)
            try simp only [Act.put, List.setIfInBounds_toArray, List.set_cons_zero, List.set_cons_succ]
            refine wpAnyL_take (i := 14) (v := ?_) hcl hS (some 85) rfl rfl (by kernel_rfl) (by kernel_rfl) (by kernel_rfl) (fun _ _ _ h => h) (by kernel_rfl) ?_ (fun hcl => ?_)
            rotate_left 1
            · (refine Or.inl ⟨by rfl, ?_⟩; intro w' hw'; (try go_simp); (try rfl); done)
            try simp only [Act.put, List.setIfInBounds_toArray, List.set_cons_zero, List.set_cons_succ]
            refine wpAnyL_take (i := 15) (v := ?_) hcl hS (some 86) rfl rfl (by kernel_rfl) (by kernel_rfl) (by kernel_rfl) (fun _ _ _ h => h) (by kernel_rfl) ?_ (fun hcl => ?_)
            rotate_left 1
            · (refine Or.inl ⟨by rfl, ?_⟩; intro w' hw'; have hcl := cA _ hw'; (try go_simp); (try rfl); done)
            try simp only [Act.put, List.setIfInBounds_toArray, List.set_cons_zero, List.set_cons_succ]
            refine wpAnyL_take (i := 16) (v := ?_) hcl hS (some 87) rfl rfl (by kernel_rfl) (by kernel_rfl) (by kernel_rfl) (fun _ _ _ h => h) (by kernel_rfl) ?_ (fun hcl => ?_)
            rotate_left 1
            · (refine Or.inl ⟨by rfl, ?_⟩; intro w' hw'; (try go_simp); (try rfl); done)
            try simp only [Act.put, List.setIfInBounds_toArray, List.set_cons_zero, List.set_cons_succ]
            refine wpAnyL_take (i := 17) (v := ?_) hcl hS (some 88) rfl rfl (by kernel_rfl) (by kernel_rfl) (by kernel_rfl) (fun _ _ _ h => h) (by kernel_rfl) ?_ (fun hcl => ?_)
            rotate_left 1
            · (refine Or.inl ⟨by rfl, ?_⟩; intro w' hw'; (try go_simp); (try rfl); done)
            try simp only [Act.put, List.setIfInBounds_toArray, List.set_cons_zero, List.set_cons_succ]
            refine wpAnyL_take (i := 18) (v := ?_) hcl hS (some 89) rfl rfl (by kernel_rfl) (by kernel_rfl) (by kernel_rfl) (fun _ _ _ h => h) (by kernel_rfl) ?_ (fun hcl => ?_)
            rotate_left 1
            · (refine Or.inl ⟨by rfl, ?_⟩; intro w' hw'; (try go_simp); (try rfl); done)
            try simp only [Act.put, List.setIfInBounds_toArray, List.set_cons_zero, List.set_cons_succ]
            refine wpAnyL_take (i := 19) (v := ?_) hcl hS (some 90) rfl rfl (by kernel_rfl) (by kernel_rfl) (by kernel_rfl) (fun _ _ _ h => h) (by kernel_rfl) ?_ (fun hcl => ?_)
            rotate_left 1
            · (refine Or.inl ⟨by rfl, ?_⟩; intro w' hw'; have hcl := cA _ hw'; (try go_simp); (try rfl); done)
            try simp only [Act.put, List.setIfInBounds_toArray, List.set_cons_zero, List.set_cons_succ]
            refine wpAnyL_take (i := 20) (v := ?_) hcl hS (some 91) rfl rfl (by kernel_rfl) (by kernel_rfl) (by kernel_rfl) (fun _ _ _ h => h) (by kernel_rfl) ?_ (fun hcl => ?_)
            rotate_left 1
            · (refine Or.inl ⟨by rfl, ?_⟩; intro w' hw'; (try go_simp); (try rfl); done)
            try simp only [Act.put, List.setIfInBounds_toArray, List.set_cons_zero, List.set_cons_succ]
            refine wpAnyL_take (i := 21) (v := ?_) hcl hS (some 92) rfl rfl (by kernel_rfl) (by kernel_rfl) (by kernel_rfl) (fun _ _ _ h => h) (by kernel_rfl) ?_ (fun hcl => ?_)
            rotate_left 1
            · (refine Or.inl ⟨by rfl, ?_⟩; intro w' hw'; (try go_simp); (try rfl); done)
            try simp only [Act.put, List.setIfInBounds_toArray, List.set_cons_zero, List.set_cons_succ]
            refine wpAnyL_take (i := 22) (v := ?_) hcl hS (some 93) rfl rfl (by kernel_rfl) (by kernel_rfl) (by kernel_rfl) (fun _ _ _ h => h) (by kernel_rfl) ?_ (fun hcl => ?_)
            rotate_left 1
            · (refine Or.inl ⟨by rfl, ?_⟩; intro w' hw'; (try go_simp); (try rfl); done)
            try simp only [Act.put, List.setIfInBounds_toArray, List.set_cons_zero, List.set_cons_succ]
            refine wpAnyL_take (i := 23) (v := ?_) hcl hS (some 94) rfl rfl (by kernel_rfl) (by kernel_rfl) (by kernel_rfl) (fun _ _ _ h => h) (by kernel_rfl) ?_ (fun hcl => ?_)
            rotate_left 1
            · (refine Or.inl ⟨by rfl, ?_⟩; intro w' hw'; (refine ex_loadP (rJ' _ hw') hb32 (.tmp 93) ?_ ?_ <;> rfl))
            try simp only [Act.put, List.setIfInBounds_toArray, List.set_cons_zero, List.set_cons_succ]
            refine wpAnyL_fork2 hcl (i := 24) (j := 25) (by kernel_rfl) rfl (by rfl) rfl (by rfl) (fun hcl K hK => ?_) (fun hcl K hK => ?_)
            · (try generalize World.drew _ = Wd at *)
              have g7 := hS.size
              have h7 := rowP_new_S hS
              (try have hne := Nat.ne_of_gt h8.lt)
              (try replace h8 := h8.alloc (.cells (ptC 0 zer).toArray 60 (0, 0)))
              have hb := ext_alloc_S hS (.cells (ptC 0 zer).toArray 60 (0, 0))
              refine wp_alloc_at (some 7) 60 rfl rfl _ (zeroP _) ?_
              refine hK.out _ _ (fun _ => hb) ?_
              replace hS := hb
              clear hK K hb
              try simp only [Act.put, List.setIfInBounds_toArray, List.set_cons_zero, List.set_cons_succ]
              refine wpAnyL_one (i := 25) hcl rfl (by kernel_rfl) (by rfl) (fun hcl K hK => ?_)
              (try generalize World.drew _ = Wd at *)
              have g8 := hS.size
              have h8 := rowP_new_S hS
              (try have hne := Nat.ne_of_lt h7.lt)
              (try replace h7 := h7.alloc (.cells (ptC 0 zer).toArray 60 (0, 0)))
              have hb := ext_alloc_S hS (.cells (ptC 0 zer).toArray 60 (0, 0))
              refine wp_alloc_at (some 8) 60 rfl rfl _ (zeroP _) ?_
              refine hK.out _ _ (fun _ => hb) ?_
              replace hS := hb
              clear hK K hb
              try simp only [Act.put, List.setIfInBounds_toArray, List.set_cons_zero, List.set_cons_succ]
              refine wpAnyL_one (i := 26) hcl rfl (by kernel_rfl) (by rfl) (fun hcl K hK => ?_)
              refine wp_storeP_at h7 zer_length ha32 _ _ rfl rfl rfl rfl ?_
              replace h7 := h7.setRow (n := nb) da
              replace h8 := h8.other (Ne.symm hne) (ptC nb da).toArray
              have hb := below_setRow hS g7 (ptC nb da).toArray
              refine hK.out _ _ (fun _ => hb) ?_
              replace hS := hb
              clear hK K hb
              try simp only [Act.put, List.setIfInBounds_toArray, List.set_cons_zero, List.set_cons_succ]
              refine wpAnyL_one (i := 27) hcl rfl (by kernel_rfl) (by rfl) (fun hcl K hK => ?_)
              refine wp_storeP_at h8 zer_length hb32 _ _ rfl rfl rfl rfl ?_
              replace h7 := h7.other hne (ptC nb db).toArray
              replace h8 := h8.setRow (n := nb) db
              have hb := below_setRow hS g8 (ptC nb db).toArray
              refine hK.out _ _ (fun _ => hb) ?_
              replace hS := hb
              clear hK K hb
              try simp only [Act.put, List.setIfInBounds_toArray, List.set_cons_zero, List.set_cons_succ]
              refine wpAnyL_done (by kernel_rfl) ?_ _
              clear w1 w2 w3 w4 cA rJ' rM' j1 m1 j0 m0 hsum hsw hle hpos hn h2 hq
              go_wp2_with fail
              go_meet
              exact ⟨_, _, rfl, rfl, h7, h8, hS⟩
            · (try generalize World.drew _ = Wd at *)
              have g8 := hS.size
              have h8 := rowP_new_S hS
              (try have hne := Nat.ne_of_lt h7.lt)
              (try replace h7 := h7.alloc (.cells (ptC 0 zer).toArray 60 (0, 0)))
              have hb := ext_alloc_S hS (.cells (ptC 0 zer).toArray 60 (0, 0))
              refine wp_alloc_at (some 8) 60 rfl rfl _ (zeroP _) ?_
              refine hK.out _ _ (fun _ => hb) ?_
              replace hS := hb
              clear hK K hb
              try simp only [Act.put, List.setIfInBounds_toArray, List.set_cons_zero, List.set_cons_succ]
              refine wpAnyL_one (i := 24) hcl rfl (by kernel_rfl) (by rfl) (fun hcl K hK => ?_)
              (try generalize World.drew _ = Wd at *)
              have g7 := hS.size
              have h7 := rowP_new_S hS
              (try have hne := Nat.ne_of_gt h8.lt)
              (try replace h8 := h8.alloc (.cells (ptC 0 zer).toArray 60 (0, 0)))
              have hb := ext_alloc_S hS (.cells (ptC 0 zer).toArray 60 (0, 0))
              refine wp_alloc_at (some 7) 60 rfl rfl _ (zeroP _) ?_
              refine hK.out _ _ (fun _ => hb) ?_
              replace hS := hb
              clear hK K hb
              try simp only [Act.put, List.setIfInBounds_toArray, List.set_cons_zero, List.set_cons_succ]
              refine wpAnyL_one (i := 26) hcl rfl (by kernel_rfl) (by rfl) (fun hcl K hK => ?_)
              refine wp_storeP_at h7 zer_length ha32 _ _ rfl rfl rfl rfl ?_
              replace h7 := h7.setRow (n := nb) da
              replace h8 := h8.other (Ne.symm hne) (ptC nb da).toArray
              have hb := below_setRow hS g7 (ptC nb da).toArray
              refine hK.out _ _ (fun _ => hb) ?_
              replace hS := hb
              clear hK K hb
              try simp only [Act.put, List.setIfInBounds_toArray, List.set_cons_zero, List.set_cons_succ]
              refine wpAnyL_one (i := 27) hcl rfl (by kernel_rfl) (by rfl) (fun hcl K hK => ?_)
              refine wp_storeP_at h8 zer_length hb32 _ _ rfl rfl rfl rfl ?_
              replace h7 := h7.other hne (ptC nb db).toArray
              replace h8 := h8.setRow (n := nb) db
              have hb := below_setRow hS g8 (ptC nb db).toArray
              refine hK.out _ _ (fun _ => hb) ?_
              replace hS := hb
              clear hK K hb
              try simp only [Act.put, List.setIfInBounds_toArray, List.set_cons_zero, List.set_cons_succ]
              refine wpAnyL_done (by kernel_rfl) ?_ _
              clear w1 w2 w3 w4 cA rJ' rM' j1 m1 j0 m0 hsum hsw hle hpos hn h2 hq
              go_wp2_with fail
              go_meet
              exact ⟨_, _, rfl, rfl, h7, h8, hS⟩
            -- /DEV
          case rest =>
            obtain ⟨P7, P8, rfl, rfl, h7, h8, ex⟩ := hcut
            replace hR := hR.ext ex
            have cA2 := fun (w' : World) (hw : Ext wc w') => (hR.at_.below hw).c1.1
            clear cA rJ' rM' ex w1 w3
            go_upto_region 8 with fail
            go_cut [9] (fun s9 wx => ∃ P9, s9 = .pointer (some ⟨P9, 0, none⟩) ∧ RowP wx P9 (nb + nb) y ∧ Ext wc wx)
            case first =>
              -- DEV
              have hS : Ext wc wc.drew := ext_drew _
              refine wp_region_L (fun w' => Ext wc w') [] (by kernel_rfl) (fun hcl => ?_)
              refine wpAnyL_take (i := 0) (v := ?_) hcl hS (some 95) rfl rfl (by kernel_rfl) (by kernel_rfl) (by kernel_rfl) (fun _ _ _ h => h) (by kernel_rfl) ?_ (fun hcl => ?_)
              rotate_left 1
              · (refine Or.inl ⟨by rfl, ?_⟩; intro w' hw'; (try go_simp); (try rfl); done)
              try simp only [Act.put, List.setIfInBounds_toArray, List.set_cons_zero, List.set_cons_succ]
              refine wpAnyL_take (i := 1) (v := ?_) hcl hS (some 96) rfl rfl (by kernel_rfl) (by kernel_rfl) (by kernel_rfl) (fun _ _ _ h => h) (by kernel_rfl) ?_ (fun hcl => ?_)
              rotate_left 1
              · (refine Or.inl ⟨by rfl, ?_⟩; intro w' hw'; have hcl := (h7.below hw').num; (try go_simp); (try rfl); done)
              try simp only [Act.put, List.setIfInBounds_toArray, List.set_cons_zero, List.set_cons_succ]
              refine wpAnyL_take (i := 2) (v := ?_) hcl hS (some 97) rfl rfl (by kernel_rfl) (by kernel_rfl) (by kernel_rfl) (fun _ _ _ h => h) (by kernel_rfl) ?_ (fun hcl => ?_)
              rotate_left 1
              · (refine Or.inl ⟨by rfl, ?_⟩; intro w' hw'; (try go_simp); (try rfl); done)
              try simp only [Act.put, List.setIfInBounds_toArray, List.set_cons_zero, List.set_cons_succ]
              refine wpAnyL_take (i := 3) (v := ?_) hcl hS (some 98) rfl rfl (by kernel_rfl) (by kernel_rfl) (by kernel_rfl) (fun _ _ _ h => h) (by kernel_rfl) ?_ (fun hcl => ?_)
              rotate_left 1
              · (refine Or.inl ⟨by rfl, ?_⟩; intro w' hw'; have hcl := (h8.below hw').num; (try go_simp); (try rfl); done)
              try simp only [Act.put, List.setIfInBounds_toArray, List.set_cons_zero, List.set_cons_succ]
              refine wpAnyL_take (i := 4) (v := ?_) hcl hS (some 99) rfl rfl (by kernel_rfl) (by kernel_rfl) (by kernel_rfl) (fun _ _ _ h => h) (by kernel_rfl) ?_ (fun hcl => ?_)
              rotate_left 1
              · (refine Or.inl ⟨by rfl, ?_⟩; intro w' hw'; (try go_simp); (try rfl); done)
              try simp only [Act.put, List.setIfInBounds_toArray, List.set_cons_zero, List.set_cons_succ]
              refine wpAnyL_take (i := 5) (v := ?_) hcl hS (some 100) rfl rfl (by kernel_rfl) (by kernel_rfl) (by kernel_rfl) (fun _ _ _ h => h) (by kernel_rfl) ?_ (fun hcl => ?_)
              rotate_left 1
              · (refine Or.inl ⟨by rfl, ?_⟩; intro w' hw'; (try go_simp); (try rfl); done)
              try simp only [Act.put, List.setIfInBounds_toArray, List.set_cons_zero, List.set_cons_succ]
              refine wpAnyL_take (i := 6) (v := ?_) hcl hS (some 101) rfl rfl (by kernel_rfl) (by kernel_rfl) (by kernel_rfl) (fun _ _ _ h => h) (by kernel_rfl) ?_ (fun hcl => ?_)
              rotate_left 1
              · (refine Or.inl ⟨by rfl, ?_⟩; intro w' hw'; (refine arr_dg.exAt (h7.below hw').head ha32 (.tmp 100) ?_ ?_ <;> rfl))
              try simp only [Act.put, List.setIfInBounds_toArray, List.set_cons_zero, List.set_cons_succ]
              refine wpAnyL_take (i := 7) (v := ?_) hcl hS (some 102) rfl rfl (by kernel_rfl) (by kernel_rfl) (by kernel_rfl) (fun _ _ _ h => h) (by kernel_rfl) ?_ (fun hcl => ?_)
              rotate_left 1
              · (refine Or.inl ⟨by rfl, ?_⟩; intro w' hw'; (try go_simp); (try rfl); done)
              try simp only [Act.put, List.setIfInBounds_toArray, List.set_cons_zero, List.set_cons_succ]
              refine wpAnyL_take (i := 8) (v := ?_) hcl hS (some 103) rfl rfl (by kernel_rfl) (by kernel_rfl) (by kernel_rfl) (fun _ _ _ h => h) (by kernel_rfl) ?_ (fun hcl => ?_)
              rotate_left 1
              · (refine Or.inl ⟨by rfl, ?_⟩; intro w' hw'; (refine arr_dg.exAt (h8.below hw').head hb32 (.tmp 102) ?_ ?_ <;> rfl))
              try simp only [Act.put, List.setIfInBounds_toArray, List.set_cons_zero, List.set_cons_succ]
              refine wpAnyL_fork2 hcl (i := 9) (j := 11) (by kernel_rfl) rfl (by rfl) rfl (by rfl) (fun hcl K hK => ?_) (fun hcl K hK => ?_)
              · (try generalize World.drew _ = Wd at *)
                go_simp
                (with_reducible refine (nd _).mono ?_); rintro e w7 ⟨rfl, b⟩
                (try replace h9 := h9.below b)
                have hb := Ext.trans hS b
                clear b
                refine hK.out _ _ (fun _ => hb) ?_
                replace hS := hb
                clear hK K hb
                try simp only [Act.put, List.setIfInBounds_toArray, List.set_cons_zero, List.set_cons_succ]
                refine wpAnyL_take (i := 10) (v := ?_) hcl hS (some 105) rfl rfl (by kernel_rfl) (by kernel_rfl) (by kernel_rfl) (fun _ _ _ h => h) (by kernel_rfl) ?_ (fun hcl => ?_)
                rotate_left 1
                · (refine Or.inl ⟨by rfl, ?_⟩; intro w' hw'; (refine ex_pt (n := nb + nb) hyl (.tmp 99) (.tmp 104) ?_ ?_ ?_ <;> rfl))
                try simp only [Act.put, List.setIfInBounds_toArray, List.set_cons_zero, List.set_cons_succ]
                refine wpAnyL_one (i := 11) hcl rfl (by kernel_rfl) (by rfl) (fun hcl K hK => ?_)
                (try generalize World.drew _ = Wd at *)
                have g9 := hS.size
                have h9 := rowP_new_S hS
                have hb := ext_alloc_S hS (.cells (ptC 0 zer).toArray 60 (0, 0))
                refine wp_alloc_at (some 9) 60 rfl rfl _ (zeroP _) ?_
                refine hK.out _ _ (fun _ => hb) ?_
                replace hS := hb
                clear hK K hb
                try simp only [Act.put, List.setIfInBounds_toArray, List.set_cons_zero, List.set_cons_succ]
                refine wpAnyL_one (i := 12) hcl rfl (by kernel_rfl) (by rfl) (fun hcl K hK => ?_)
                refine wp_storeP_at h9 zer_length hyl _ _ rfl rfl rfl rfl ?_
                replace h9 := h9.setRow (n := nb + nb) y
                have hb := below_setRow hS g9 (ptC (nb + nb) y).toArray
                refine hK.out _ _ (fun _ => hb) ?_
                replace hS := hb
                clear hK K hb
                try simp only [Act.put, List.setIfInBounds_toArray, List.set_cons_zero, List.set_cons_succ]
                refine wpAnyL_done (by kernel_rfl) ?_ _
                clear w2 w4 cA2 j1 m1 j0 m0 hsum hsw hle hpos hn h2 hq h7 h8 nd
                go_wp2_with fail
                go_meet
                exact ⟨_, rfl, h9, hS⟩
              · (try generalize World.drew _ = Wd at *)
                have g9 := hS.size
                have h9 := rowP_new_S hS
                have hb := ext_alloc_S hS (.cells (ptC 0 zer).toArray 60 (0, 0))
                refine wp_alloc_at (some 9) 60 rfl rfl _ (zeroP _) ?_
                refine hK.out _ _ (fun _ => hb) ?_
                replace hS := hb
                clear hK K hb
                try simp only [Act.put, List.setIfInBounds_toArray, List.set_cons_zero, List.set_cons_succ]
                refine wpAnyL_one (i := 9) hcl rfl (by kernel_rfl) (by rfl) (fun hcl K hK => ?_)
                (try generalize World.drew _ = Wd at *)
                go_simp
                (with_reducible refine (nd _).mono ?_); rintro e w7 ⟨rfl, b⟩
                (try replace h9 := h9.below b)
                have hb := Ext.trans hS b
                clear b
                refine hK.out _ _ (fun _ => hb) ?_
                replace hS := hb
                clear hK K hb
                try simp only [Act.put, List.setIfInBounds_toArray, List.set_cons_zero, List.set_cons_succ]
                refine wpAnyL_take (i := 10) (v := ?_) hcl hS (some 105) rfl rfl (by kernel_rfl) (by kernel_rfl) (by kernel_rfl) (fun _ _ _ h => h) (by kernel_rfl) ?_ (fun hcl => ?_)
                rotate_left 1
                · (refine Or.inl ⟨by rfl, ?_⟩; intro w' hw'; (refine ex_pt (n := nb + nb) hyl (.tmp 99) (.tmp 104) ?_ ?_ ?_ <;> rfl))
                try simp only [Act.put, List.setIfInBounds_toArray, List.set_cons_zero, List.set_cons_succ]
                refine wpAnyL_one (i := 12) hcl rfl (by kernel_rfl) (by rfl) (fun hcl K hK => ?_)
                refine wp_storeP_at h9 zer_length hyl _ _ rfl rfl rfl rfl ?_
                replace h9 := h9.setRow (n := nb + nb) y
                have hb := below_setRow hS g9 (ptC (nb + nb) y).toArray
                refine hK.out _ _ (fun _ => hb) ?_
                replace hS := hb
                clear hK K hb
                try simp only [Act.put, List.setIfInBounds_toArray, List.set_cons_zero, List.set_cons_succ]
                refine wpAnyL_done (by kernel_rfl) ?_ _
                clear w2 w4 cA2 j1 m1 j0 m0 hsum hsw hle hpos hn h2 hq h7 h8 nd
                go_wp2_with fail
                go_meet
                exact ⟨_, rfl, h9, hS⟩
              -- /DEV
            case rest =>
              obtain ⟨P9, rfl, h9, ex⟩ := hcut
              replace hR := hR.ext ex
              have cA3 := fun (w' : World) (hw : Ext wc w') => (hR.at_.below hw).c1.1
              clear cA2 h7 h8 ex hsw nd
              have hMc : (M : Int) ≤ c := by obtain ⟨A', c', e, hcc, _⟩ := hsl.1; injection e with _ _ e3; rw [← e3] at hcc; omega
              have hMl : (M : Int) ≤ ps.length := by omega
              have hcutP := (hR.own.cut M (by have := hM.out; omega) rfl).below (ext_drew wc)
              go_upto_region 10 with fail
              go_cut [10] (fun s10 wx => ∃ v10, s10 = v10 ∧ OwP (w.heap.size + 2) wx v10 (ps.take M) ∧ v10.ownBlock ≠ some P9 ∧ Ext wc wx)
              case first =>
                -- DEV
                have hS : Ext wc wc.drew := ext_drew _
                have hzz := hR.sz
                have h9l := h9.lt
                have hBw : wc.heap.size ≤ wc.drew.heap.size := Nat.le_refl _
                have htl : ([] : List PartL).length + (ps.take M).length ≤ 1099511627776 := by rw [List.length_take]; simp; omega
                refine wp_region_L (fun w' => Ext wc w') [] (by kernel_rfl) (fun hcl => ?_)
                refine wpAnyL_take (i := 0) (v := ?_) hcl hS (some 106) rfl rfl (by kernel_rfl) (by kernel_rfl) (by kernel_rfl) (fun _ _ _ h => h) (by kernel_rfl) ?_ (fun hcl => ?_)
                rotate_left 1
                · (refine Or.inl ⟨by rfl, ?_⟩; intro w' hw'; (try go_simp); (try rfl); done)
                try simp only [Act.put, List.setIfInBounds_toArray, List.set_cons_zero, List.set_cons_succ]
                refine wpAnyL_take (i := 1) (v := ?_) hcl hS (some 107) rfl rfl (by kernel_rfl) (by kernel_rfl) (by kernel_rfl) (fun _ _ _ h => h) (by kernel_rfl) ?_ (fun hcl => ?_)
                rotate_left 1
                · (refine Or.inl ⟨by rfl, ?_⟩; intro w' hw'; (try go_simp); (try rfl); done)
                try simp only [Act.put, List.setIfInBounds_toArray, List.set_cons_zero, List.set_cons_succ]
                refine wpAnyL_take (i := 2) (v := ?_) hcl hS (some 108) rfl rfl (by kernel_rfl) (by kernel_rfl) (by kernel_rfl) (fun _ _ _ h => h) (by kernel_rfl) ?_ (fun hcl => ?_)
                rotate_left 1
                · (refine Or.inl ⟨by rfl, ?_⟩; intro w' hw'; (try go_simp); (try rfl); done)
                try simp only [Act.put, List.setIfInBounds_toArray, List.set_cons_zero, List.set_cons_succ]
                refine wpAnyL_take (i := 3) (v := ?_) hcl hS (some 109) rfl rfl (by kernel_rfl) (by kernel_rfl) (by kernel_rfl) (fun _ _ _ h => h) (by kernel_rfl) ?_ (fun hcl => ?_)
                rotate_left 1
                · (refine Or.inl ⟨by rfl, ?_⟩; intro w' hw'; (try go_simp); (try rfl); done)
                try simp only [Act.put, List.setIfInBounds_toArray, List.set_cons_zero, List.set_cons_succ]
                refine wpAnyL_take (i := 4) (v := ?_) hcl hS (some 110) rfl rfl (by kernel_rfl) (by kernel_rfl) (by kernel_rfl) (fun _ _ _ h => h) (by kernel_rfl) ?_ (fun hcl => ?_)
                rotate_left 1
                · (refine Or.inl ⟨by rfl, ?_⟩; intro w' hw'; have hcl := cA3 _ hw'; (try go_simp); (try rfl); done)
                try simp only [Act.put, List.setIfInBounds_toArray, List.set_cons_zero, List.set_cons_succ]
                refine wpAnyL_take (i := 5) (v := ?_) hcl hS (some 111) rfl rfl (by kernel_rfl) (by kernel_rfl) (by kernel_rfl) (fun _ _ _ h => h) (by kernel_rfl) ?_ (fun hcl => ?_)
                rotate_left 1
                · (refine Or.inl ⟨by rfl, ?_⟩; intro w' hw'; (try go_simp); (try rfl); done)
                try simp only [Act.put, List.setIfInBounds_toArray, List.set_cons_zero, List.set_cons_succ]
                refine wpAnyL_take (i := 6) (v := ?_) hcl hS (some 112) rfl rfl (by kernel_rfl) (by kernel_rfl) (by kernel_rfl) (fun _ _ _ h => h) (by kernel_rfl) ?_ (fun hcl => ?_)
                rotate_left 1
                · (refine Or.inl ⟨by rfl, ?_⟩; intro w' hw'; (try go_simp); (try rfl); done)
                try simp only [Act.put, List.setIfInBounds_toArray, List.set_cons_zero, List.set_cons_succ]
                refine wpAnyL_take (i := 7) (v := ?_) hcl hS (some 113) rfl rfl (by kernel_rfl) (by kernel_rfl) (by kernel_rfl) (fun _ _ _ h => h) (by kernel_rfl) ?_ (fun hcl => ?_)
                rotate_left 1
                · (refine Or.inl ⟨by rfl, ?_⟩; intro w' hw'; (try go_simp); (try rfl); done)
                try simp only [Act.put, List.setIfInBounds_toArray, List.set_cons_zero, List.set_cons_succ]
                refine wpAnyL_take (i := 8) (v := ?_) hcl hS (some 114) rfl rfl (by kernel_rfl) (by kernel_rfl) (by kernel_rfl) (fun _ _ _ h => h) (by kernel_rfl) ?_ (fun hcl => ?_)
                rotate_left 1
                · (refine Or.inl ⟨by rfl, ?_⟩; intro w' hw'; have hcl := cA3 _ hw'; (try go_simp); (try rfl); done)
                try simp only [Act.put, List.setIfInBounds_toArray, List.set_cons_zero, List.set_cons_succ]
                refine wpAnyL_take (i := 9) (v := ?_) hcl hS (some 115) rfl rfl (by kernel_rfl) (by kernel_rfl) (by kernel_rfl) (fun _ _ _ h => h) (by kernel_rfl) ?_ (fun hcl => ?_)
                rotate_left 1
                · (refine Or.inl ⟨by rfl, ?_⟩; intro w' hw'; (try go_simp); (try rfl); done)
                try simp only [Act.put, List.setIfInBounds_toArray, List.set_cons_zero, List.set_cons_succ]
                refine wpAnyL_take (i := 10) (v := ?_) hcl hS (some 116) rfl rfl (by kernel_rfl) (by kernel_rfl) (by kernel_rfl) (fun _ _ _ h => h) (by kernel_rfl) ?_ (fun hcl => ?_)
                rotate_left 1
                · (refine Or.inl ⟨by rfl, ?_⟩; intro w' hw'; (try go_simp); (try rfl); done)
                try simp only [Act.put, List.setIfInBounds_toArray, List.set_cons_zero, List.set_cons_succ]
                refine wpAnyL_take (i := 11) (v := ?_) hcl hS (some 117) rfl rfl (by kernel_rfl) (by kernel_rfl) (by kernel_rfl) (fun _ _ _ h => h) (by kernel_rfl) ?_ (fun hcl => ?_)
                rotate_left 1
                · (refine Or.inl ⟨by rfl, ?_⟩; intro w' hw'; (try go_simp); (try rfl); done)
                try simp only [Act.put, List.setIfInBounds_toArray, List.set_cons_zero, List.set_cons_succ]
                refine wpAnyL_one (i := 12) hcl rfl (by kernel_rfl) (by rfl) (fun hcl K hK => ?_)
                refine wp_apP (some 118) _ _ rfl rfl (B := wc.heap.size) rfl (OwP.nil _ _) rfl hcutP htl hBw ?_; intro v10 w11 h10 hg10
                rw [List.nil_append] at h10
                have hb : Ext wc w11 := Below.grown hS hg10 hBw (fun k e => by cases e)
                refine hK.out _ _ (fun _ => hb) ?_
                replace hS := hb
                clear hK K hb
                try simp only [Act.put, List.setIfInBounds_toArray, List.set_cons_zero, List.set_cons_succ]
                refine wpAnyL_take (i := 13) (v := ?_) hcl hS (some 10) rfl rfl (by kernel_rfl) (by kernel_rfl) (by kernel_rfl) (fun _ _ _ h => h) (by kernel_rfl) ?_ (fun hcl => ?_)
                rotate_left 1
                · (refine Or.inl ⟨by rfl, ?_⟩; intro w' hw'; (try go_simp); (try rfl); done)
                try simp only [Act.put, List.setIfInBounds_toArray, List.set_cons_zero, List.set_cons_succ]
                refine wpAnyL_done (by kernel_rfl) ?_ _
                clear w2 w4 cA3 j1 m1 j0 m0 hsum hle hpos hn h2 hq hcutP htl hMc hMl
                go_wp2_with fail
                go_meet
                exact ⟨_, rfl, h10.mono (by omega), fun e => by have := (h10.lt _ e).1; omega, hS⟩
                -- /DEV
              case rest =>
                obtain ⟨v10, rfl, h10, hn9, ex⟩ := hcut
                replace hR := hR.ext ex
                replace h9 := h9.below ex
                have hzz := hR.sz
                have hP9p : P9 ≠ p := by
                  rintro rfl
                  have h1 : wc.heap[P9]? = _ := hR.at_
                  rw [show wc.heap[P9]? = _ from h9] at h1
                  simp at h1
                clear cA3 ex hcutP w2 w4 hMc hMl j1 m1 j0 m0 hq h2
                have e2 := ext_alloc wc (.cells (ptC (nb + nb) y).toArray 60 (0, 0))
                have hA1 := hR.at_.below e2
                have h91 := h9.below e2
                have h101 := h10.below e2
                have hT1 := hR.tld.below e2
                have hsrc := slP_one wc (nb + nb) y 60 hyl
                have hvp : u10.ownBlock ≠ some p := fun e => by have := (h10.lt p e).1; omega
                have htk : (ps.take M).length = M := by rw [List.length_take]; have := hM.out; omega
                have htl : (ps.take M).length + 1 ≤ 1099511627776 := by have := hM.out; omega
                have hBw : w.heap.size + 2 ≤ (wc.alloc (.cells (ptC (nb + nb) y).toArray 60 (0, 0))).heap.size := by have := e2.size; omega
                go_wp2_with (first
                  | ((with_reducible refine at_load ?_); refine wpl_loadP h9 hyl rfl _ rfl rfl ?_)
                  | ((with_reducible refine at_bs ?_); refine wpl_bP rfl hyl _ rfl rfl ?_)
                  | (at_builtin; go_loud (refine wpl_apP rfl _ _ rfl (B := w.heap.size + 2) rfl h101 rfl hsrc (by simp) htl hBw ?_)))
                intro gu cu w11 h11 hg11 hat11 hlt11
                have hA11 : RrAt w11 p (n + 1) (.slice (some ⟨g, 0, none⟩) ps.length c) := (hg11.block p hA1.lt (fun e => hvp e.symm)).trans hA1
                have c11 := hA11.c1
                go_upto_region 12 with fail
                have hv9 : u10.ownBlock ≠ some P9 := hn9
                have hP11 : RowP w11 P9 (nb + nb) y := (hg11.block P9 h91.lt (fun e => hv9 e.symm)).trans h91
                have hT11 : OwD (w.heap.size + 1) w11 u6 told := hT1.apart fun k hk => hg11.block k (hT1.lt k hk).2 (fun e => h101.neD hT1 hk e.symm)
                have hgp := hA11.ne_own h11
                have hA12 := hA11.set1 (.slice (some ⟨gu, 0, none⟩) (M + 1) cu)
                have hO12 : OwP (w.heap.size + 2) (w11.setCell ⟨p, 1, none⟩ (.slice (some ⟨gu, 0, none⟩) (M + 1) cu)) (.slice (some ⟨gu, 0, none⟩) (M + 1) cu) (ps.take M ++ [(nb + nb, y)]) :=
                  h11.apart fun k hk => Below.heap_setCell _ _ _ _ (by rintro rfl; exact hgp hk)
                have hP12 : RowP (w11.setCell ⟨p, 1, none⟩ (.slice (some ⟨gu, 0, none⟩) (M + 1) cu)) P9 (nb + nb) y := (Below.heap_setCell _ _ _ _ hP9p).trans hP11
                have hT12 : OwD (w.heap.size + 1) (w11.setCell ⟨p, 1, none⟩ (.slice (some ⟨gu, 0, none⟩) (M + 1) cu)) u6 told :=
                  hT11.apart fun k hk => Below.heap_setCell _ _ _ _ (fun e => by have := (hT11.lt k hk).1; rw [e] at this; exact absurd this (by show ¬ (w.heap.size + 1 ≤ p); omega))
                have hb12 : But (RgB p v) w (w11.setCell ⟨p, 1, none⟩ (.slice (some ⟨gu, 0, none⟩) (M + 1) cu)) :=
                  hR.but.step (((But.of_ext e2).grown hg11 (fun k hk => .inr (by have := (h10.lt k hk).1; omega))).setCell (p := ⟨p, 1, none⟩) (.inl (.inl rfl)) _)
                have hz12 : w.heap.size + 1 < (w11.setCell ⟨p, 1, none⟩ (.slice (some ⟨gu, 0, none⟩) (M + 1) cu)).heap.size := by have := hg11.size; simp [World.setCell]; omega
                generalize hX : w11.setCell ⟨p, 1, none⟩ (.slice (some ⟨gu, 0, none⟩) (M + 1) cu) = X at *
                have e3 := ext_alloc X (.cells (bs y).toArray 29 (0, 0))
                have hs12 := slD_one X y 29 hyl
                have hT13 := hT12.below e3
                have htl12 : told.length + [y].length ≤ 1099511627776 := by have := hR.tl; simp; omega
                have hbw12 : w.heap.size + 1 ≤ (X.alloc (.cells (bs y).toArray 29 (0, 0))).heap.size := by have := e3.size; omega
                have hh12 := hP12.head
                clear hA11 c11 hP11 hT11 hgp h11 hg11 hat11 hlt11 hA1 h91 h101 hT1 hsrc hBw e2
                go_wp2_with (first
                  | ((with_reducible refine at_load ?_); refine arr_dg.loadAtL hh12 (by rfl) hyl _ rfl rfl ?_)
                  | ((with_reducible refine at_bs ?_); refine wpl_bD rfl hyl _ rfl rfl ?_)
                  | (at_builtin; go_loud (refine wpl_apD (B := w.heap.size + 1) rfl _ _ rfl rfl hT13 rfl hs12 htl12 hbw12 ?_)))
                intro v7 w14 h7 hg14 b14
                have hsz14 := hg14.size
                have hA14 : RrAt w14 p (n + 1) (.slice (some ⟨gu, 0, none⟩) (M + 1) cu) := (b14.block p (by omega)).trans (hA12.below e3)
                have hO13 := hO12.below e3
                have hO14 : OwP (w.heap.size + 2) w14 (.slice (some ⟨gu, 0, none⟩) (M + 1) cu) (ps.take M ++ [(nb + nb, y)]) :=
                  hO13.apart fun k hk => hg14.block k (hO13.lt k hk).2 (fun e => hO13.neD hT13 e.symm hk)
                have hb14 : But (RgB p v) w w14 := hb12.step ((But.of_ext e3).grown hg14 (fun k hk => .inr (by have := (hT13.lt k hk).1; omega)))
                have hz14 : w.heap.size + 1 < w14.heap.size := by have := e3.size; omega
                have hlt6 := lenV_own hT12
                have hlt7 := lenV_own h7
                have hfl := hR.tl
                clear hT12 hT13 hO12 hO13 hA12 hP12 hh12 hs12 htl12 hbw12 hb12 e3
                go_wp2_with fail
                have hff := hf'.out
                refine ⟨⟨f', ps.take M ++ [(nb + nb, y)], told ++ [y], _, v7, rfl, hst.out.symm.trans hme.out, ⟨?_, ?_, ?_, ?_, hA14, hO14.mono (by omega), h7, hb14, hz14, by simp⟩⟩, ?_⟩
                · have := hR.fuel; have := hM.out; rw [List.length_append, htk, List.length_singleton]; omega
                · have := hR.fl; omega
                · intro q hq
                  have hpw : 2 ^ f = 2 * 2 ^ f' := by rw [hff, Nat.pow_succ]; omega
                  rcases List.mem_append.1 hq with hq | hq
                  · have h9 := hR.num q (List.mem_of_mem_take hq)
                    rw [hpw] at h9
                    refine Nat.le_trans (Nat.mul_le_mul_left q.1 (show 2 ^ f' ≤ 2 * 2 ^ f' by omega)) h9
                  · rw [List.mem_singleton.1 hq]
                    have h9 := hna.out
                    rw [hpw, ← Nat.mul_assoc, Nat.mul_comm nb 2, show 2 * nb = nb + nb by omega] at h9
                    exact h9
                · have := hR.tl; rw [List.length_append, List.length_singleton]; omega
                · rw [hlt6, hlt7, List.length_append, List.length_singleton]; omega
end Go.Proofs.Ytcaaeimcieooiaa
