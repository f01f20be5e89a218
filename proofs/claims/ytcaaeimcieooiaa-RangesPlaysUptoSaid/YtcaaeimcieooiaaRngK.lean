/- Add of a range (walk). -/
import Derived.Test.YtcaaeimcieooiaaRngG
import Derived.Test.YtcaaeimcieooiaaRl
import Derived.Test.YtcaaeimcieooiaaMerN
import Derived.Deep.AppendLies
set_option linter.unusedVariables false
set_option linter.unusedSimpArgs false
set_option maxRecDepth 10000
namespace Go.Proofs.Ytcaaeimcieooiaa
open Go.RowKit
attribute [local go_sem high] dg_cells guard_dg

/-- A shorter part of what is one's own is one's own. -/
theorem OwD.cut {B : Nat} {w : World} {A : Option Addr} {n c : Nat} {ds : List (List UInt8)} (h : OwD B w (.slice A n c) ds) (k : Nat) (hk : k ≤ n) : OwD B w (.slice A k c) (ds.take k) := by
  obtain ⟨⟨h1, h2⟩, h32⟩ := h
  have hn : n = ds.length := by
    rcases h2 with ⟨e, h0⟩ | ⟨g, cap, cur, e, _⟩
    · injection e with _ e _; omega
    · injection e
  subst hn
  have hl : (bs (ds.take k).flatten).length = (ds.take k).length * 32 := by rw [bs_length, (h32.take k).flat]
  have hkl : (ds.take k).length = k := by rw [List.length_take]; omega
  refine ⟨⟨hl, ?_⟩, h32.take k⟩
  rcases h2 with ⟨e, h0⟩ | ⟨g, cap, cur, e, hB, hg, hc, hm, hz, ht⟩
  · injection e with e1 e2 e3
    left; subst e1 e3
    have : k = 0 := by omega
    subst this
    exact ⟨rfl, hkl⟩
  · injection e with e1 e2 e3
    right
    refine ⟨g, cap, cur, by rw [e1, e3, hkl], hB, hg, by omega, hm, hz, ?_⟩
    rw [hkl]
    have : (cur.toList.take (ds.length * 32)).take (k * 32) = cur.toList.take (k * 32) := by rw [List.take_take, Nat.min_eq_left (by omega)]
    rw [← this, ht, bs_take, flat_take _ _ h32]
theorem ownBlock_cut (A : Option Addr) (n k c c' : Nat) : (Value.slice A n c).ownBlock = (Value.slice A k c').ownBlock := by cases A <;> rfl
/-- 'append' of digests onto an own slice, and where the new slice lies. -/
theorem wp_apD_at {w : World} {o : Oper} {a : Act} {K : Act → World → Prop} {Q : Exit → Act → World → Prop}
    (s x : Operand) (hop : o.op = Op.call { callee := Callee.builtin Builtin.append, args := #[s, x], argTypes := #[30, 30] })
    {B : Nat} {v vx : Value} {xs ys : List (List UInt8)} (hs : a.eval s = v) (hown : OwD B w v xs) (hx : a.eval x = vx) (hsrc : SlD w vx ys) (hne : ys ≠ [])
    (hlen : xs.length + ys.length ≤ 1099511627776) (hB : B ≤ w.heap.size)
    (hK : ∀ g c w', OwD B w' (.slice (some ⟨g, 0, none⟩) (xs.length + ys.length) c) (xs ++ ys) → w.grownBy w' v.ownBlock → (v.ownBlock = some g ∨ g = w.heap.size) → g < w'.heap.size → K (a.put o.dst (.slice (some ⟨g, 0, none⟩) (xs.length + ys.length) c)) w') : o.wp Try.prog a w K Q := by
  obtain ⟨⟨A, c, rfl, hc, hcm, hA, hr⟩, h32⟩ := hsrc
  obtain ⟨i, hi, hz0, hz1, hz2⟩ := info_parts infoD
  have hn : 0 < ys.length := List.length_pos_iff.2 hne
  cases A with
  | none =>
    have := hr.none_
    have hl : (bs ys.flatten).length = 0 := by rw [this]; rfl
    rw [bs_length, h32.flat] at hl
    omega
  | some ad =>
    refine wp_append_lies w s x 30 hop B 29 i _ 32 32 Try.underlying30 hi hz0 hz1 hz2 (by simp [dg, Value.cells, bs_length, zer_length]) (by decide) v xs.length (bs xs.flatten) hs hown.1 ad ys.length c (bs ys.flatten) hx (by rw [bs_length, h32.flat]) hr.some_ (bs_one _) hn (by unfold maxLen; omega) (by omega) hB _ rfl ?_
    intro g cap w' ho hgr hat hlt
    refine hK g cap w' ⟨?_, hown.2.append h32⟩ hgr hat hlt
    rw [List.length_append, flat_append]; exact ho
/-- The blocks that an Add turns. -/
def RgB (p : Nat) (v : Value) (k : Nat) : Prop := k = p ∨ v.ownBlock = some k
theorem RgAt.ne_own {w : World} {p n : Nat} {v : Value} {m : Bool} (h : RgAt w p n v m) {B : Nat} {u : Value} {ds : List (List UInt8)} (ho : OwD B w u ds) : u.ownBlock ≠ some p := by
  rcases ho.1.2 with ⟨e, _⟩ | ⟨g, cap, cur, e, _, hg, _⟩
  · rw [e]; simp [Value.ownBlock]
  · rw [e]
    simp only [Value.ownBlock, ne_eq, Option.some.injEq]
    rintro rfl
    rw [show w.heap[g]? = _ from h] at hg
    simp at hg
theorem OwD.apart {B : Nat} {w w' : World} {v : Value} {ds : List (List UInt8)} (h : OwD B w v ds) (hk : ∀ k, v.ownBlock = Option.some k → w'.heap[k]? = w.heap[k]?) : OwD B w' v ds := by
  obtain ⟨⟨h1, h2⟩, h32⟩ := h
  refine ⟨⟨h1, ?_⟩, h32⟩
  rcases h2 with ⟨e, h0⟩ | ⟨g, cap, cur, e, hB, hg, hc, hm, hz, ht⟩
  · exact .inl ⟨e, h0⟩
  · exact .inr ⟨g, cap, cur, e, hB, (hk g (by rw [e]; rfl)).trans hg, hc, hm, hz, ht⟩
theorem RgAt.set1 {w : World} {p n : Nat} {v : Value} {m : Bool} (h : RgAt w p n v m) (u : Value) : RgAt (w.setCell ⟨p, 1, none⟩ u) p n u m := by
  unfold RgAt at h ⊢
  rw [heap_setCell_same w p 1 _ _ _ h]; rfl
theorem RgAt.set0 {w : World} {p n : Nat} {v : Value} {m : Bool} (h : RgAt w p n v m) (k : Nat) : RgAt (w.setCell ⟨p, 0, none⟩ (.int .u64 (k : Int))) p k v m := by
  unfold RgAt at h ⊢
  rw [heap_setCell_same w p 0 _ _ _ h]; rfl

theorem add_nil (x : List UInt8) (w : World) : Calls Try.prog 9 #[.pointer none, dg x] w fun e w' => e = .returned (.tuple #[.slice none 0 0, .int .i64 2]) ∧ Below w.heap.size w w' := by
  have b := ext_alloc w (.cells (bs x).toArray 29)
  change Calls _ _ #[_, .agg (bs x).toArray] _ _
  go_enter Try.func9, Try.ntmps9
  go_wp2_with fail
  refine (none_nil _).mono ?_; rintro e w1 ⟨rfl, rfl⟩
  go_wp2_with fail
  go_ret2
  exact ⟨rfl, b⟩
theorem add_zero {w : World} {p n : Nat} {v : Value} (h : RgAt w p n v false) (x : List UInt8) : Calls Try.prog 9 #[ptr p, dg x] w fun e w' => e = .returned (.tuple #[.slice none 0 0, .int .i64 2]) ∧ Below w.heap.size w w' := by
  have b := ext_alloc w (.cells (bs x).toArray 29)
  have h1 := h.below b
  change Calls _ _ #[_, .agg (bs x).toArray] _ _
  go_enter Try.func9, Try.ntmps9
  go_wp2_with fail
  refine (none_at h1).mono ?_; rintro e w1 ⟨rfl, rfl⟩
  go_wp2_with fail
  go_ret2
  exact ⟨rfl, b⟩
theorem add_full {w : World} {p n : Nat} {v : Value} (h : RgAt w p n v true) (hn : n = 1048576) (x : List UInt8) : Calls Try.prog 9 #[ptr p, dg x] w fun e w' => e = .returned (.tuple #[.slice none 0 0, .int .i64 7]) ∧ Below w.heap.size w w' := by
  subst hn
  have b := ext_alloc w (.cells (bs x).toArray 29)
  have h1 := h.below b
  have c0 := h1.c0.1
  change Calls _ _ #[_, .agg (bs x).toArray] _ _
  go_enter Try.func9, Try.ntmps9
  go_wp2_with fail
  refine (none_at h1).mono ?_; rintro e w1 ⟨rfl, rfl⟩
  go_wp2_with fail
  go_ret2
  exact ⟨rfl, b⟩
set_option maxHeartbeats 8000000 in
theorem add_at {w : World} {p n : Nat} {v : Value} {ds : List (List UInt8)} {B : Nat} (h : RgAt w p n v true) (ho : OwD B w v ds) (hB : B ≤ w.heap.size) (hn : n < 1048576) (hp : ds.length = popN 21 n) (x : List UInt8) (hx : x.length = 32) :
    Calls Try.prog 9 #[ptr p, dg x] w fun e w' => ∃ u v', e = .returned (.tuple #[u, .int .i64 0]) ∧ OwD w.heap.size w' u (addN 21 n ds x [x]).2.2 ∧
      RgAt w' p (n + 1) v' true ∧ OwD B w' v' ((addN 21 n ds x [x]).1 ++ [(addN 21 n ds x [x]).2.1]) ∧ But (RgB p v) w w' ∧
      (∀ k, v'.ownBlock = some k → (v.ownBlock = some k ∨ w.heap.size ≤ k) ∧ u.ownBlock ≠ some k) := by
  have b := ext_alloc w (.cells (bs x).toArray 29)
  have hR0 : RowT 29 (w.alloc (.cells (bs x).toArray 29)) w.heap.size x := heap_alloc_new _ _
  have h1 := h.below b
  have ho1 := ho.below b
  have bu1 : But (RgB p v) w (w.alloc (.cells (bs x).toArray 29)) := But.of_ext b
  have zW := size_alloc w (.cells (bs x).toArray 29)
  generalize hW : w.alloc (.cells (bs x).toArray 29) = W at *
  have c0 := h1.c0.1
  have d1 : decide ((1048576 : Int) ≤ n) = false := decide_eq_false (by omega)
  have d2 : decide (1048576 ≤ n) = false := decide_eq_false (by omega)
  have b2 := ext_alloc W (.cells (bs x).toArray 29 (0, 0))
  have hnew : (W.alloc (.cells (bs x).toArray 29 (0, 0))).heap[w.heap.size + 1]? = some (.cells (bs x).toArray 29 (0, 0)) := by
    have := heap_alloc_new W (.cells (bs x).toArray 29 (0, 0))
    rw [zW] at this; exact this
  have hm2 : OwD (w.heap.size + 1) (W.alloc (.cells (bs x).toArray 29 (0, 0))) (.slice (some ⟨w.heap.size + 1, 0, none⟩) 1 1) [x] :=
    own_row (n := 1) (by simpa using hnew) (fun d hd => by rw [List.mem_singleton.1 hd]; exact hx) rfl (by omega) (Nat.le_refl _)
  have h2 := h1.below b2
  have ho2 := ho1.below b2
  have hR2 := hR0.below b2
  have bu2 := bu1.trans (But.of_ext b2)
  have c02 := h2.c0.1
  obtain ⟨W2, hW2⟩ : ∃ W2, W2 = W.alloc (.cells (bs x).toArray 29 (0, 0)) := ⟨_, rfl⟩
  rw [← hW2] at h2 ho2 hR2 bu2 hm2
  clear hnew
  change Calls _ _ #[_, .agg (bs x).toArray] _ _
  go_enter Try.func9, Try.ntmps9
  go_wp2_with fail
  refine (none_at h1).mono ?_; rintro e w1 ⟨rfl, rfl⟩
  go_wp2_with (first
    | ((with_reducible refine at_load ?_); refine arr_dg.loadL hR0 (by rfl) hx _ rfl rfl ?_)
    | ((with_reducible refine at_bs ?_); refine wpl_bD rfl hx _ rfl rfl ?_))
  rw [← hW2]
  clear hW2 c02 c0 b2 h1 hR0 ho1 bu1 hW b
  go_loopw [6, 7, 8] (fun s6 s7 s8 wr => ∃ (f m : Nat) (ds1 told : List (List UInt8)) (x1 : List UInt8) (v1 v6 : Value), s6 = v6 ∧ s7 = .int .u64 (m : Int) ∧
      Hid (addN f m ds1 x1 told = addN 21 n ds x [x]) ∧ Hid (m < 2 ^ f) ∧ m ≤ n ∧ Hid (ds1.length = popN f m) ∧ f ≤ 21 ∧ told.length + f ≤ 22 ∧ RowT 29 wr w.heap.size x1 ∧ x1.length = 32 ∧ RgAt wr p n v1 true ∧ OwD B wr v1 ds1 ∧
      OwD (w.heap.size + 1) wr v6 told ∧ v1.ownBlock = v.ownBlock ∧ But (RgB p v) w wr ∧ w.heap.size + 1 < wr.heap.size) (fun _ s7 _ _ => (intOf s7).toNat)
  case atStart => exact ⟨21, n, ds, [x], x, v, _, rfl, rfl, rfl, by unfold Hid; omega, Nat.le_refl _, hp, Nat.le_refl _, Nat.le_refl _, hR2, hx, h2, ho2, hm2, rfl, bu2, by have := hm2.lt _ rfl; omega⟩
  case round =>
    obtain ⟨f, m, ds1, told, x1, v1, v6, rfl, rfl, hadd, hmf, hmn, hpop, hf, htl, hR, hx1, hG, hO1, hO6, hob, hbu, hsz⟩ := hrel
    clear hm2 hR2 ho2 h2 bu2
    have hpz : p < w.heap.size := h.lt
    have hand : bits .and .u64 (m : Int) 1 = ((m % 2 : Nat) : Int) := by
      have := and_n m 1 (by omega) (by decide)
      rw [Nat.and_one_is_mod] at this
      exact this
    by_cases hodd : m % 2 = 1
    · rw [hodd] at hand
      replace hand : bits .and .u64 (m : Int) 1 = 1 := hand
      obtain ⟨f', rfl⟩ : ∃ f', f = f' + 1 := ⟨f - 1, by
        have := hmf.out
        cases f with
        | zero => rw [Nat.pow_zero] at this; omega
        | succ f => rfl⟩
      obtain ⟨L, hL⟩ : ∃ L, ds1.length = L + 1 := ⟨popN f' (m / 2), by
        have := hpop.out
        rw [this]
        show m % 2 + popN f' (m / 2) = _
        omega⟩
      have hLf : L + 1 ≤ f' + 1 := by have := hpop.out; have h3 := pop_le (f' + 1) m; omega
      obtain ⟨⟨A, c, rfl, hc, hcm, _⟩, h32⟩ := id hO1.sl
      obtain ⟨ad, rfl, _⟩ := hO1.sl.get (i := L) (by omega)
      have gd : ∀ w', Below wr.heap.size wr w' → RdB w' (some (ad.add (L * 32))) (ds1.getD L []) := fun w' hw => by
        obtain ⟨_, e, hh⟩ := (hO1.sl.below hw).get (i := L) (by omega)
        cases e; exact hh
      have hd := hO1.sl.len32 (i := L) (by omega)
      have hadd2 : addN (f' + 1) m ds1 x1 told = addN f' (m / 2) (ds1.take L) (nodeL (ds1.getD L []) x1) (told ++ [nodeL (ds1.getD L []) x1]) := by
        conv => lhs; unfold addN
        rw [if_pos hodd, hL, Nat.add_sub_cancel]
      have hcut := hO1.cut L (by omega)
      generalize ds1.getD L [] = d at *
      have nd := fun w' => node_any d x1 hd hx1 w'
      have hnl := nodeL_length d x1
      generalize nodeL d x1 = y at *
      have hLI : Hid ((ds1.length : Int) - 1 = (L : Int)) := by unfold Hid; omega
      have l1 : (L : Int) < ds1.length := by omega
      have l0 : (0 : Int) ≤ L := by omega
      have cG := fun (w' : World) (hw : Ext wr w') => (hG.below hw).c1.1
      have c1 := hG.c1.1
      have hcur : Below wr.heap.size wr wr := Below.refl _ _
      have e0 := Ext.refl wr
      replace hadd2 : Hid _ := hadd2
      replace hL : Hid _ := hL
      replace hodd : Hid _ := hodd
      replace hLf : Hid _ := hLf
      clear hp h
      go_wp2_with fail
      rw [hLI.out]
      refine wp_region_F 9 (by kernel_rfl) (fun hcl => ?_)
      replace hcur := below_via hcur (ext_drew _)
      replace e0 := Ext.trans e0 (ext_drew _)
      refine wpAnyF_take (fin := 9) (i := 0) (v := ?_) hcl (some 35) rfl rfl (by kernel_rfl) (by kernel_rfl) (by kernel_rfl) (fun _ _ _ h => h) (by kernel_rfl) ?_ (fun hcl => ?_)
      rotate_left 1
      · (refine Or.inl ⟨by rfl, ?_⟩; intro w' hw'; have hq := below_via hcur hw'; have hq_e0 := Ext.trans e0 hw'; (try go_simp); (try rfl); done)
      try simp only [Act.put, List.setIfInBounds_toArray, List.set_cons_zero, List.set_cons_succ]
      refine wpAnyF_take (fin := 9) (i := 1) (v := ?_) hcl (some 36) rfl rfl (by kernel_rfl) (by kernel_rfl) (by kernel_rfl) (fun _ _ _ h => h) (by kernel_rfl) ?_ (fun hcl => ?_)
      rotate_left 1
      · (refine Or.inl ⟨by rfl, ?_⟩; intro w' hw'; have hq := below_via hcur hw'; have hq_e0 := Ext.trans e0 hw'; (try go_simp); (try rfl); done)
      try simp only [Act.put, List.setIfInBounds_toArray, List.set_cons_zero, List.set_cons_succ]
      refine wpAnyF_take (fin := 9) (i := 2) (v := ?_) hcl (some 37) rfl rfl (by kernel_rfl) (by kernel_rfl) (by kernel_rfl) (fun _ _ _ h => h) (by kernel_rfl) ?_ (fun hcl => ?_)
      rotate_left 1
      · (refine Or.inl ⟨by rfl, ?_⟩; intro w' hw'; have hq := below_via hcur hw'; have hq_e0 := Ext.trans e0 hw'; (try go_simp); (try rfl); done)
      try simp only [Act.put, List.setIfInBounds_toArray, List.set_cons_zero, List.set_cons_succ]
      refine wpAnyF_take (fin := 9) (i := 3) (v := ?_) hcl (some 38) rfl rfl (by kernel_rfl) (by kernel_rfl) (by kernel_rfl) (fun _ _ _ h => h) (by kernel_rfl) ?_ (fun hcl => ?_)
      rotate_left 1
      · (refine Or.inl ⟨by rfl, ?_⟩; intro w' hw'; have hq := below_via hcur hw'; have hq_e0 := Ext.trans e0 hw'; have hcl := cG _ hq_e0; (try go_simp); (try rfl); done)
      try simp only [Act.put, List.setIfInBounds_toArray, List.set_cons_zero, List.set_cons_succ]
      refine wpAnyF_take (fin := 9) (i := 4) (v := ?_) hcl (some 39) rfl rfl (by kernel_rfl) (by kernel_rfl) (by kernel_rfl) (fun _ _ _ h => h) (by kernel_rfl) ?_ (fun hcl => ?_)
      rotate_left 1
      · (refine Or.inl ⟨by rfl, ?_⟩; intro w' hw'; have hq := below_via hcur hw'; have hq_e0 := Ext.trans e0 hw'; (try go_simp); (try rfl); done)
      try simp only [Act.put, List.setIfInBounds_toArray, List.set_cons_zero, List.set_cons_succ]
      refine wpAnyF_take (fin := 9) (i := 5) (v := ?_) hcl (some 40) rfl rfl (by kernel_rfl) (by kernel_rfl) (by kernel_rfl) (fun _ _ _ h => h) (by kernel_rfl) ?_ (fun hcl => ?_)
      rotate_left 1
      · (refine Or.inl ⟨by rfl, ?_⟩; intro w' hw'; have hq := below_via hcur hw'; have hq_e0 := Ext.trans e0 hw'; (try go_simp); (try rfl); done)
      try simp only [Act.put, List.setIfInBounds_toArray, List.set_cons_zero, List.set_cons_succ]
      refine wpAnyF_take (fin := 9) (i := 6) (v := ?_) hcl (some 41) rfl rfl (by kernel_rfl) (by kernel_rfl) (by kernel_rfl) (fun _ _ _ h => h) (by kernel_rfl) ?_ (fun hcl => ?_)
      rotate_left 1
      · (refine Or.inl ⟨by rfl, ?_⟩; intro w' hw'; have hq := below_via hcur hw'; have hq_e0 := Ext.trans e0 hw'; (refine arr_dg.exAt (gd _ hq) hd (.tmp 40) ?_ ?_ <;> rfl))
      try simp only [Act.put, List.setIfInBounds_toArray, List.set_cons_zero, List.set_cons_succ]
      refine wpAnyF_take (fin := 9) (i := 7) (v := ?_) hcl (some 42) rfl rfl (by kernel_rfl) (by kernel_rfl) (by kernel_rfl) (fun _ _ _ h => h) (by kernel_rfl) ?_ (fun hcl => ?_)
      rotate_left 1
      · (refine Or.inl ⟨by rfl, ?_⟩; intro w' hw'; have hq := below_via hcur hw'; have hq_e0 := Ext.trans e0 hw'; (refine arr_dg.ex (hR.below hq_e0) hx1 (.tmp 3) ?_ ?_ <;> rfl))
      try simp only [Act.put, List.setIfInBounds_toArray, List.set_cons_zero, List.set_cons_succ]
      refine wpAnyF_one (fin := 9) (i := 8) hcl rfl (by kernel_rfl) (by rfl) (fun hcl K hK => ?_)
      go_simp
      (with_reducible refine (nd _).mono ?_); rintro e w7 ⟨rfl, hb⟩
      refine hK.out _ _ hb ?_
      replace hcur := below_via hcur hb; clear hK K
      replace e0 := Ext.trans e0 hb
      try simp only [Act.put, List.setIfInBounds_toArray, List.set_cons_zero, List.set_cons_succ]
      refine wpAnyF_last (fin := 9) rfl (by kernel_rfl) (by kernel_rfl) (by rfl) (fun K hK => ?_)
      have r9 := hR.below e0
      refine arr_dg.store r9 hx1 hnl _ _ rfl rfl rfl ?_
      refine hK.out _ _ ?_
      clear hK K hcl
      have rY : RowT 29 (w7.setRow w.heap.size (bs y).toArray) w.heap.size y := r9.setRow y
      have hG9 : RgAt (w7.setRow w.heap.size (bs y).toArray) p n (.slice (some ad) ds1.length c) true := (heap_setRow_other _ _ _ _ (by omega)).trans (hG.below e0)
      have hb9 : But (RgB p v) w (w7.setRow w.heap.size (bs y).toArray) := hbu.step ((But.of_ext e0).setRow (.inr (Nat.le_refl _)) _)
      have g9 := hG9.c1
      have gc : (L : Int) ≤ c := by omega
      have gl : (L : Int) ≤ ds1.length := by omega
      have hob1 : (Value.slice (some ad) L c).ownBlock = v.ownBlock := hob
      have hltv := fun k (hk : v.ownBlock = some k) => hO1.lt k (hob.trans hk)
      have hnp := hG.ne_own hO1
      have hvz : ∀ k, v.ownBlock = some k → k ≠ w.heap.size := fun k hk => by have := ho.lt k hk; omega
      have h6lt := fun k hk => hO6.lt k hk
      have hk10 : ∀ k, k < wr.heap.size → k ≠ p → k ≠ w.heap.size → ((w7.setRow w.heap.size (bs y).toArray).setCell ⟨p, 1, none⟩ (.slice (some ad) L c)).heap[k]? = wr.heap[k]? := fun k h1 h2 h3 =>
        (Below.heap_setCell _ _ _ _ h2).trans ((heap_setRow_other _ _ _ _ h3).trans (e0.block _ h1))
      have rY10 : RowT 29 ((w7.setRow w.heap.size (bs y).toArray).setCell ⟨p, 1, none⟩ (.slice (some ad) L c)) w.heap.size y := (Below.heap_setCell _ _ _ _ (by show w.heap.size ≠ p; omega)).trans rY
      have hG10 : RgAt ((w7.setRow w.heap.size (bs y).toArray).setCell ⟨p, 1, none⟩ (.slice (some ad) L c)) p n (.slice (some ad) L c) true := hG9.set1 _
      have hO10 : OwD B ((w7.setRow w.heap.size (bs y).toArray).setCell ⟨p, 1, none⟩ (.slice (some ad) L c)) (.slice (some ad) L c) (ds1.take L) :=
        hcut.apart fun k hk => hk10 k (hltv k (hob1.symm.trans hk)).2 (fun e => hnp (by rw [← e]; exact hk)) (hvz k (hob1.symm.trans hk))
      have hO6' : OwD (w.heap.size + 1) ((w7.setRow w.heap.size (bs y).toArray).setCell ⟨p, 1, none⟩ (.slice (some ad) L c)) u6 told :=
        hO6.apart fun k hk => by have := h6lt k hk; exact hk10 k this.2 (by omega) (by omega)
      have hb10 : But (RgB p v) w ((w7.setRow w.heap.size (bs y).toArray).setCell ⟨p, 1, none⟩ (.slice (some ad) L c)) := hb9.setCell (.inl rfl) _
      have hs10 : w.heap.size + 1 < ((w7.setRow w.heap.size (bs y).toArray).setCell ⟨p, 1, none⟩ (.slice (some ad) L c)).heap.size := by
        have := e0.size; simp [World.setCell, World.setRow]; omega
      generalize hX : (w7.setRow w.heap.size (bs y).toArray).setCell ⟨p, 1, none⟩ (.slice (some ad) L c) = X at *
      have e1 := ext_alloc X (.cells (bs y).toArray 29 (0, 0))
      have hsrc := slD_one X y 29 hnl
      have hO6x := hO6'.below e1
      have htl2 : told.length + [y].length ≤ 1099511627776 := by simp; omega
      go_wp2_with (first
        | ((with_reducible refine at_load ?_); refine arr_dg.loadL rY10 (by rfl) hnl _ rfl rfl ?_)
        | ((with_reducible refine at_bs ?_); refine wpl_bD rfl hnl _ rfl rfl ?_)
        | (at_builtin; go_loud (refine wpl_apD (B := w.heap.size + 1) rfl _ _ rfl rfl hO6x rfl hsrc htl2 (by simp; omega) ?_)))
      intro v7 w8 h7 hg7 b7
      have h6k : ∀ k, u6.ownBlock = some k → w.heap.size + 1 ≤ k := fun k hk => (h6lt k hk).1
      have hk8 : ∀ k, k < w.heap.size + 1 → w8.heap[k]? = X.heap[k]? := fun k hk => (b7.block k hk).trans (e1.block k (by omega))
      have rY8 : RowT 29 w8 w.heap.size y := (hk8 _ (by omega)).trans rY10
      have hG8 : RgAt w8 p n (.slice (some ad) L c) true := (hk8 _ (by omega)).trans hG10
      have hO8 : OwD B w8 (.slice (some ad) L c) (ds1.take L) := hO10.apart fun k hk => hk8 k (by have := (ho.lt k (hob1.symm.trans hk)).2; omega)
      have hb8 : But (RgB p v) w w8 := hb10.step ((But.of_ext e1).trans ((But.refl _ _).grown hg7 fun k hk => .inr (by have := h6k k hk; omega)))
      have hs8 : w.heap.size + 1 < w8.heap.size := by have := b7.size; have := e1.size; omega
      go_wp2_with fail
      go_roundw
      case rel =>
        refine ⟨f', m / 2, ds1.take L, told ++ [y], y, _, v7, rfl, by go_num, by unfold Hid; rw [← hadd2.out]; exact hadd.out, ?_, by omega, ?_, by omega, by simp; omega, rY8, hnl, hG8, hO8, h7, hob1, hb8, hs8⟩
        · have := hmf.out
          unfold Hid
          rw [Nat.pow_succ] at this; omega
        · have h1 := hpop.out
          have h2 := hL.out
          have h3 := hodd.out
          have h4 : popN (f' + 1) m = m % 2 + popN f' (m / 2) := rfl
          unfold Hid
          rw [List.length_take]; omega
      case measure => have := hodd.out; simp [intOf]; omega
    · have he0 : m % 2 = 0 := by omega
      rw [he0] at hand
      replace hand : bits .and .u64 (m : Int) 1 = 0 := hand
      have hend : addN f m ds1 x1 told = (ds1, x1, told) := by
        cases f with
        | zero => rfl
        | succ f => unfold addN; rw [if_neg hodd]
      have hfin : Hid (addN 21 n ds x [x] = (ds1, x1, told)) := hadd.out.symm.trans hend
      have hl1 : ds1.length ≤ 21 := by have := hpop.out; have := pop_le f m; omega
      clear hadd hend hpop hmf
      have hnp := hG.ne_own hO1
      have hltv := fun k (hk : v1.ownBlock = some k) => hO1.lt k hk
      have hvz : ∀ k, v1.ownBlock = some k → k ≠ w.heap.size := fun k hk => by have := ho.lt k (hob.symm.trans hk); omega
      have h6lt' := fun k (hk : u6.ownBlock = some k) => hO6.lt k hk
      have hn1 : decide (n < 1048576) = true := decide_eq_true hn
      clear hp h
      go_wp2_with fail
      have e1 := ext_alloc wr.drew (.cells (bs x1).toArray 29 (0, 0))
      have e2 := Ext.trans (ext_drew wr) e1
      have hO1x := hO1.below e2
      have hG1 := hG.below e2
      have hR1 := hR.below e2
      have hO61 := hO6.below e2
      have hsrc := slD_one wr.drew x1 29 hx1
      have hS : RgAt wr.drew p n v1 true ∧ RowT 29 wr.drew w.heap.size x1 := ⟨hG.below (ext_drew _), hR.below (ext_drew _)⟩
      refine wp_region_L (fun w' => RgAt w' p n v1 true ∧ RowT 29 w' w.heap.size x1) [7, 10] (by kernel_rfl) (fun hcl => ?_)
      refine wpAnyL_pure (i := 0) (v := ?_) hcl (some 57) rfl rfl (by kernel_rfl) (by kernel_rfl) (by kernel_rfl) (fun _ _ _ h => h) ?_ (fun hcl => ?_)
      rotate_left 1
      · (refine Or.inl ⟨by rfl, ?_⟩; intro w' hw'; (try go_simp); (try rfl); done)
      try simp only [Act.put, List.setIfInBounds_toArray, List.set_cons_zero, List.set_cons_succ]
      refine wpAnyL_take (i := 1) (v := ?_) hcl hS (some 58) rfl rfl (by kernel_rfl) (by kernel_rfl) (by kernel_rfl) (fun _ _ _ h => h) (by kernel_rfl) ?_ (fun hcl => ?_)
      rotate_left 1
      · (refine Or.inl ⟨by rfl, ?_⟩; intro w' hw'; (try go_simp); (try rfl); done)
      try simp only [Act.put, List.setIfInBounds_toArray, List.set_cons_zero, List.set_cons_succ]
      refine wpAnyL_take (i := 2) (v := ?_) hcl hS (some 59) rfl rfl (by kernel_rfl) (by kernel_rfl) (by kernel_rfl) (fun _ _ _ h => h) (by kernel_rfl) ?_ (fun hcl => ?_)
      rotate_left 1
      · (refine Or.inl ⟨by rfl, ?_⟩; intro w' hw'; (try go_simp); (try rfl); done)
      try simp only [Act.put, List.setIfInBounds_toArray, List.set_cons_zero, List.set_cons_succ]
      refine wpAnyL_take (i := 3) (v := ?_) hcl hS (some 60) rfl rfl (by kernel_rfl) (by kernel_rfl) (by kernel_rfl) (fun _ _ _ h => h) (by kernel_rfl) ?_ (fun hcl => ?_)
      rotate_left 1
      · (refine Or.inl ⟨by rfl, ?_⟩; intro w' hw'; (try go_simp); (try rfl); done)
      try simp only [Act.put, List.setIfInBounds_toArray, List.set_cons_zero, List.set_cons_succ]
      refine wpAnyL_take (i := 4) (v := ?_) hcl hS (some 61) rfl rfl (by kernel_rfl) (by kernel_rfl) (by kernel_rfl) (fun _ _ _ h => h) (by kernel_rfl) ?_ (fun hcl => ?_)
      rotate_left 1
      · (refine Or.inl ⟨by rfl, ?_⟩; intro w' hw'; have hcl := hw'.1.c1.1; (try go_simp); (try rfl); done)
      try simp only [Act.put, List.setIfInBounds_toArray, List.set_cons_zero, List.set_cons_succ]
      refine wpAnyL_take (i := 5) (v := ?_) hcl hS (some 62) rfl rfl (by kernel_rfl) (by kernel_rfl) (by kernel_rfl) (fun _ _ _ h => h) (by kernel_rfl) ?_ (fun hcl => ?_)
      rotate_left 1
      · (refine Or.inl ⟨by rfl, ?_⟩; intro w' hw'; (refine arr_dg.ex hw'.2 hx1 (.tmp 3) ?_ ?_ <;> rfl))
      try simp only [Act.put, List.setIfInBounds_toArray, List.set_cons_zero, List.set_cons_succ]
      refine wpAnyL_one (i := 6) hcl rfl (by kernel_rfl) (by rfl) (fun hcl K hK => ?_)
      refine wp_bD hx1 _ rfl rfl ?_
      have hb : RgAt (wr.drew.alloc (.cells (bs x1).toArray 29 (0, 0))) p n v1 true ∧ RowT 29 (wr.drew.alloc (.cells (bs x1).toArray 29 (0, 0))) w.heap.size x1 := ⟨hG1, hR1⟩
      refine hK.out _ _ (fun _ => hb) ?_
      replace hS := hb
      clear hK K hb
      try simp only [Act.put, List.setIfInBounds_toArray, List.set_cons_zero, List.set_cons_succ]
      refine wpAnyL_late (i := 7) hcl rfl (by kernel_rfl) (by rfl) (by kernel_rfl) (fun hcl K hK => ?_)
      refine wp_apD_at _ _ rfl (B := B) rfl hO1x rfl hsrc (by simp) (by simp; omega) (by simp; omega) ?_; intro gv cv w9 h9 hg9 hat hlt9
      have hp9 : w9.heap[p]? = _ := hg9.block p (by have := hG1.lt; exact this) (fun e => hnp e.symm)
      have hG9 : RgAt w9 p n v1 true := hp9.trans hG1
      have g9 := hG9.c1
      refine hK.out _ _ ?_
      clear hK K
      try simp only [Act.put, List.setIfInBounds_toArray, List.set_cons_zero, List.set_cons_succ]
      refine wpAnyL_pure (i := 8) (v := ?_) hcl (some 65) rfl rfl (by kernel_rfl) (by kernel_rfl) (by kernel_rfl) (fun _ _ _ h => h) ?_ (fun hcl => ?_)
      rotate_left 1
      · (refine Or.inl ⟨by rfl, ?_⟩; intro w' hw'; (try go_simp); (try rfl); done)
      try simp only [Act.put, List.setIfInBounds_toArray, List.set_cons_zero, List.set_cons_succ]
      refine wpAnyL_pure (i := 9) (v := ?_) hcl (some 66) rfl rfl (by kernel_rfl) (by kernel_rfl) (by kernel_rfl) (fun _ _ _ h => h) ?_ (fun hcl => ?_)
      rotate_left 1
      · (refine Or.inl ⟨by rfl, ?_⟩; intro w' hw'; (try go_simp); (try rfl); done)
      try simp only [Act.put, List.setIfInBounds_toArray, List.set_cons_zero, List.set_cons_succ]
      refine wpAnyL_late (i := 10) hcl rfl (by kernel_rfl) (by rfl) (by kernel_rfl) (fun hcl K hK => ?_)
      go_simp
      refine hK.out _ _ ?_
      clear hK K
      try simp only [Act.put, List.setIfInBounds_toArray, List.set_cons_zero, List.set_cons_succ]
      refine wpAnyL_done (by kernel_rfl) ?_ _
      have hgp := hG9.ne_own h9
      rw [List.length_singleton] at h9
      have hG11 := hG9.set1 (.slice (some ⟨gv, 0, none⟩) (ds1.length + 1) cv)
      have g11 := hG11.c0
      have hG12 := hG11.set0 (n + 1)
      have hwn : IntKind.u64.wrap ((n : Int) + 1) = ((n + 1 : Nat) : Int) := by rw [IntKind.wrap_u64]; omega
      have hk12 : ∀ k, k < (wr.drew.alloc (.cells (bs x1).toArray 29 (0, 0))).heap.size → k ≠ p → v1.ownBlock ≠ some k →
          ((w9.setCell ⟨p, 1, none⟩ (.slice (some ⟨gv, 0, none⟩) (ds1.length + 1) cv)).setCell ⟨p, 0, none⟩ (.int .u64 ((n + 1 : Nat) : Int))).heap[k]? = (wr.drew.alloc (.cells (bs x1).toArray 29 (0, 0))).heap[k]? := fun k h1 h2 h3 =>
        (Below.heap_setCell _ _ _ _ h2).trans ((Below.heap_setCell _ _ _ _ h2).trans (hg9.block k h1 (fun e => h3 e.symm)))
      have f6 : OwD (w.heap.size + 1) ((w9.setCell ⟨p, 1, none⟩ (.slice (some ⟨gv, 0, none⟩) (ds1.length + 1) cv)).setCell ⟨p, 0, none⟩ (.int .u64 ((n + 1 : Nat) : Int))) u6 told :=
        hO61.apart fun k hk => by
          have := hO61.lt k hk
          exact hk12 k this.2 (by omega) (fun e => by have := ho.lt k (hob.symm.trans e); omega)
      have f9 : OwD B ((w9.setCell ⟨p, 1, none⟩ (.slice (some ⟨gv, 0, none⟩) (ds1.length + 1) cv)).setCell ⟨p, 0, none⟩ (.int .u64 ((n + 1 : Nat) : Int))) (.slice (some ⟨gv, 0, none⟩) (ds1.length + 1) cv) (ds1 ++ [x1]) :=
        h9.apart fun k hk => by
          have hkp : k ≠ p := fun e => hgp (by rw [← e]; exact hk)
          exact (Below.heap_setCell _ _ _ _ hkp).trans (Below.heap_setCell _ _ _ _ hkp)
      have fb : But (RgB p v) w ((w9.setCell ⟨p, 1, none⟩ (.slice (some ⟨gv, 0, none⟩) (ds1.length + 1) cv)).setCell ⟨p, 0, none⟩ (.int .u64 ((n + 1 : Nat) : Int))) :=
        (((hbu.trans (But.of_ext e2)).grown hg9 fun k hk => .inr (hob.symm.trans hk)).setCell (.inl rfl) _).setCell (.inl rfl) _
      have hdj : ∀ k, (Value.slice (some ⟨gv, 0, none⟩) (ds1.length + 1) cv).ownBlock = some k → (v.ownBlock = some k ∨ w.heap.size ≤ k) ∧ u6.ownBlock ≠ some k := fun k hk => by
        have hkg : gv = k := by simpa [Value.ownBlock] using hk
        subst hkg
        have hse := e2.size
        rcases hat with hat | hat
        · have hv := hob.symm.trans hat
          exact ⟨.inl hv, fun e => by have := h6lt' _ e; have := ho.lt _ hv; omega⟩
        · have : wr.heap.size < gv + 1 := by rw [hat]; omega
          exact ⟨.inr (by omega), fun e => by have := h6lt' _ e; omega⟩
      clear hk12 hS hG11 hG9
      go_wp2_with fail
      go_ret2
      rw [hfin.out]
      exact ⟨_, _, rfl, f6.mono (by omega), hG12, f9, fb, hdj⟩
end Go.Proofs.Ytcaaeimcieooiaa
