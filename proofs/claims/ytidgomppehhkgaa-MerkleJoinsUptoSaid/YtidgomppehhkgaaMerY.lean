/- The law MerkleRoots (walk). -/
import Derived.Test.YtidgomppehhkgaaMerX
set_option linter.unusedVariables false
set_option linter.unusedSimpArgs false
namespace Go.Proofs.Ytidgomppehhkgaa
open Go.RowKit
attribute [local go_sem high] dg_cells guard_dg rs_l rs_lh rs_lhm rs_h rs_hm rs_all

theorem subL_length (ds : List (List UInt8)) (f t : Int) (hl : ds.length ≤ 1048576) (h : All32 ds) : (subL ds f t).length = 32 := by
  unfold subL
  split
  · rfl
  · exact rootL_length ds.length _ (by rw [List.length_take, List.length_drop]; omega) (by omega) ((h.drop _).take _)
theorem xor1 (y : UInt8) : bits .xor .u8 (c8 y) 1 = c8 (y ^^^ 1) := by
  have : ∀ n : Fin 256, bits .xor .u8 (n.val : Int) 1 = c8 (UInt8.ofNat n.val ^^^ 1) := by decide +kernel
  have h := this ⟨y.toNat, y.toNat_lt⟩
  simp only [UInt8.ofNat_toNat] at h
  exact h
theorem gr_trans {a b c : World} {row : Option Nat} (h : a.grownBy b row) (k : b.grownBy c row) : a.grownBy c row :=
  ⟨k.os.trans h.os, k.tape.trans h.tape, k.output.trans h.output, Nat.le_trans h.size k.size, fun i hi hn => (k.block i (Nat.lt_of_lt_of_le hi h.size) hn).trans (h.block i hi hn)⟩
theorem gr_refl (w : World) (row : Option Nat) : w.grownBy w row := ⟨rfl, rfl, rfl, Nat.le_refl _, fun _ _ _ => rfl⟩
theorem gr_drew {w w' : World} {row : Option Nat} (h : w.grownBy w' row) : w.grownBy w'.drew row := ⟨h.os, h.tape, h.output, h.size, h.block⟩
theorem gr_below {w w' : World} {row : Option Nat} (h : Below w.heap.size w w') : w.grownBy w' row := ⟨h.os, h.tape, h.output, h.size, fun k hk _ => h.block k hk⟩
theorem below_gr {B : Nat} {w0 w w' : World} {g : Nat} (h : Below B w0 w) (hg : w.grownBy w' (some g)) (hB : B ≤ w.heap.size) (hb : B ≤ g) : Below B w0 w' := Below.grown h hg hB (fun k hk => by cases hk; exact hb)
set_option maxRecDepth 10000 in
set_option maxHeartbeats 8000000 in
theorem law_MerkleRoots (v : Value) (ds : List (List UInt8)) (f t : Int) (w : World) (hv : SlD w v ds) (hl : ds.length * 32 ≤ 1048576) (hf : -9223372036854775808 ≤ f ∧ f ≤ 9223372036854775807) (ht : -9223372036854775808 ≤ t ∧ t ≤ 9223372036854775807) :
    Calls Try.prog 3 #[v, .int .i64 f, .int .i64 t] w fun e w' => e = .returned (.bool true) ∧ Below w.heap.size w w' := by
  have h32 := hv.2
  have hls : ds.length ≤ 1048576 := by omega
  have hsl := subL_length ds f t hls h32
  have co := fun w' h => own_any v ds w' (by omega) h
  have cs := fun v' w' h => sub_any v' ds f t w' hls h
  have crs := fun w' h => rsub_any v ds f t w' hls h
  have cr := fun v' w' h => root_any ds.length v' ds w' (Nat.le_refl _) hls h
  have crr := fun w' h => rroot_any ds.length v ds w' (Nat.le_refl _) hls h
  have hrl := rootL_length ds.length ds (Nat.le_refl _) (by omega) h32
  have q1 := neq_dg_self (rootL ds) hrl
  have q2 := neq_dg_self (subL ds f t) hsl
  generalize rootL ds = dr at *
  generalize subL ds f t = dx at *
  generalize subE ds f t = ex at *
  go_enter Try.func3, Try.ntmps3
  go_wp2_with fail
  (with_reducible refine (co _ hv).mono ?_); rintro e w1 ⟨vm, rfl, hom, b1⟩
  have hv1 := hv.below b1
  have hm1 := hom.sl
  go_wp2_with fail
  (with_reducible refine (cs _ _ hm1).mono ?_); rintro e w2 ⟨rfl, b2⟩
  have e3 := ext_alloc w2 (.cells (bs dx).toArray 25 (0, 0))
  have b3 := Ext.trans b2 e3
  have rX : RowT 25 (w2.alloc (.cells (bs dx).toArray 25 (0, 0))) w2.heap.size dx := heap_alloc_new _ _
  have hv3 := hv1.below b3
  have hom3 := hom.below b3
  have bw3 := Ext.trans b1 b3
  clear b2 e3 b3 hv1 hm1 hom b1
  go_wp2_with ((with_reducible refine at_store ?_); refine arr_dg.store_newL zer_length rfl hsl _ _ rfl rfl rfl ?_)
  generalize hX : w2.heap.size = X at *
  generalize hW3 : w2.alloc (.cells (bs dx).toArray 25 (0, 0)) = W3 at *
  clear hX hW3
  (with_reducible refine (crs _ hv3).mono ?_); rintro e w4 ⟨rfl, b4⟩
  have e5 := ext_alloc w4 (.cells (bs dx).toArray 25 (0, 0))
  have b5 := Ext.trans b4 e5
  have rY : RowT 25 (w4.alloc (.cells (bs dx).toArray 25 (0, 0))) w4.heap.size dx := heap_alloc_new _ _
  have rX5 := rX.below b5
  have hv5 := hv3.below b5
  have hom5 := hom3.below b5
  have bw5 := Ext.trans bw3 b5
  clear b4 e5 b5 hv3 hom3 bw3 rX
  go_wp2_with ((with_reducible refine at_store ?_); refine arr_dg.store_newL zer_length rfl hsl _ _ rfl rfl rfl ?_)
  generalize hY : w4.heap.size = Y at *
  generalize hW5 : w4.alloc (.cells (bs dx).toArray 25 (0, 0)) = W5 at *
  clear hY hW5
  have qe : (ex != ex) = false := by simp
  have clv := fun v' w' h => levels_any v' ds w' h hls
  have crl := fun w' h => rlevels_any v ds w' h hls
  go_wp2_with fail
  (with_reducible refine (cr _ _ hom5.sl).mono ?_); rintro e w6 ⟨rfl, b6⟩
  have hv6 := hv5.below b6
  have hom6 := hom5.below b6
  have rX6 := rX5.below b6
  have rY6 := rY.below b6
  have bw6 := Ext.trans bw5 b6
  clear b6 hv5 hom5 rX5 rY bw5 cr
  go_wp2_with fail
  (with_reducible refine (crr _ hv6).mono ?_); rintro e w7 ⟨rfl, b7⟩
  have hv7 := hv6.below b7
  have hom7 := hom6.below b7
  have rX7 := rX6.below b7
  have rY7 := rY6.below b7
  have bw7 := Ext.trans bw6 b7
  clear b7 hv6 hom6 rX6 rY6 bw6 crr
  go_wp2_with (first
    | ((with_reducible refine at_load ?_); first | refine arr_dg.loadL rX7 (by rfl) hsl _ rfl rfl ?_ | refine arr_dg.loadL rY7 (by rfl) hsl _ rfl rfl ?_)
    | fail)
  (with_reducible refine (clv _ _ hom7.sl).mono ?_); rintro e w8 ⟨va, vs, rfl, hla, hra, b8⟩
  have hv8 := hv7.below b8
  have hom8 := hom7.below b8
  have bw8 := Ext.trans bw7 b8
  have z78 := b8.size
  clear rX7 rY7 q1 q2 clv
  go_wp2_with fail
  (with_reducible refine (crl _ hv8).mono ?_); rintro e w9 ⟨vb, us, rfl, hlb, hrb, b9⟩
  have b79 := Ext.trans b8 b9
  have hz89 := b9.size
  have hla9 := hla.below b9
  have hra9 := hra.below b9
  have hne := hra.ne
  have hlt8 := hra.lt
  have hLa := hra.len
  have hLb := hrb.len
  have hL1 : (lvls ds).length ≤ 21 := by rw [lvls_length]; exact lvl_le _ hls
  have hd32 : ∀ i : Nat, i < (lvls ds).length → ((lvls ds).getD i []).length ≤ 1048576 := fun i hi => by
    rw [lvls_length] at hi
    rw [lvls_get ds i hi, levN_length]
    exact Nat.le_trans (Nat.div_le_self _ _) hls
  generalize lvls ds = dss at *
  have hrow : ∀ i v d, 0 ≤ i → vs[i]? = some v → dss[i]? = some d → OwD w7.heap.size w9 v d ∧ 0 < d.length := fun i v d _ h1 h2 => hra9.own i v d h1 h2
  have hsm := fun va vb ds w' hl ha hb => same_any va vb ds w' hl ha hb
  clear hla hra hra9 b8 b9 bw8 hv8 hom8 crl
  obtain ⟨A, ca, rfl, _⟩ := id hla9.sl
  obtain ⟨A', cb, rfl, _⟩ := id hlb.sl
  have qlen : ((vs.length : Int) != us.length) = false := by rw [hLa, hLb]; simp
  go_wp2_with fail
  go_loopw [14] (fun ix wr => ∃ i : Nat, i ≤ dss.length ∧ ix = .int .i64 i ∧ OwL w7.heap.size wr (.slice A vs.length ca) vs ∧ (∀ j v d, i ≤ j → vs[j]? = some v → dss[j]? = some d → OwD w7.heap.size wr v d ∧ 0 < d.length) ∧
      OwL w8.heap.size wr (.slice A' us.length cb) us ∧ Rws w8.heap.size wr us dss ∧ Below w7.heap.size w7 wr ∧ w8.heap.size ≤ wr.heap.size) (fun ix _ => dss.length - (intOf ix).toNat)
  case atStart => exact ⟨0, by omega, rfl, hla9, hrow, hlb, hrb, b79, hz89⟩
  case round =>
    clear hla9 hrow hlb hrb b79
    obtain ⟨i, hi, rfl, hla, hrow, hlb, hrb, bw, hz⟩ := hrel
    by_cases hlt : i < dss.length
    · obtain ⟨ga, ca', ea, hga1, hga2, hca⟩ := hla.some (by omega)
      injection ea with e1 _ e3
      subst e1; subst e3
      obtain ⟨gb, cb', eb, hgb1, hgb2, hcb⟩ := hlb.some (by omega)
      injection eb with e1 _ e3
      subst e1; subst e3
      obtain ⟨y, hy, hoy, hn⟩ := hrb.get hlt
      have hxi : vs[i]? = some (vs[i]'(by omega)) := by simp
      have hox := (hrow i _ (dss.getD i []) (Nat.le_refl _) hxi (by simp [hlt])).1
      have hdi : dss[i]? = some (dss.getD i []) := by simp [hlt]
      have hdl := hd32 i hlt
      generalize dss.getD i [] = d at *
      generalize vs[i]'(by omega) = x at *
      obtain ⟨gx, cx, rfl, hgx1, hgx2⟩ := hox.some hn
      obtain ⟨gy, cy, rfl, hgy1, hgy2⟩ := hoy.some hn
      have hgx8 := hlt8 _ (List.mem_of_getElem? hxi) gx rfl
      have cA0 := hca i _ hxi
      have cB0 := hcb i _ hy
      have gne : ga ≠ gx := fun h => by
        rcases hla.ne hox with h' | h'
        · cases h'
        · exact h' (by rw [← h]; rfl)
      have gne2 : gb ≠ gx := by omega
      have zw := bw.size
      have hcur : Below w.heap.size w wr := Below.trans bw7 (bw.mono bw7.size)
      have e0 := Ext.refl wr
      have iL : (i : Int) < vs.length := by omega
      have iL2 : (i : Int) < us.length := by omega
      have cA := fun (w' : World) (h : Ext wr w') => (h.cell (World.block_lt_of_cell? _ _ cA0)).trans cA0
      have cB := fun (w' : World) (h : Ext wr w') => (h.cell (World.block_lt_of_cell? _ _ cB0)).trans cB0
      have fx := fun (w' : World) (h : Ext wr w') => hox.sl.below h
      have fy := fun (w' : World) (h : Ext wr w') => hoy.sl.below h
      have hsd := fun w' ha hb => hsm (.slice (some ⟨gx, 0, none⟩) d.length cx) (.slice (some ⟨gy, 0, none⟩) d.length cy) d w' (by omega) ha hb
      clear hca hcb
      go_wp2_with fail
      refine wp_region_E (by kernel_rfl) ?_
      replace hcur := below_via hcur (ext_drew _)
      replace e0 := Ext.trans e0 (ext_drew _)
      refine wpAnyE_take (i := 0) (v := ?_) (some 62) rfl rfl (by kernel_rfl) (by kernel_rfl) (by kernel_rfl) (fun _ _ _ h => h) ?_ ?_
      rotate_left 1
      · (refine Or.inl ⟨by rfl, ?_⟩; intro w' hw'; have hq := below_via hcur hw'; have hq_e0 := Ext.trans e0 hw'; (try go_simp); (try rfl); done)
      try simp only [Act.put, List.setIfInBounds_toArray, List.set_cons_zero, List.set_cons_succ]
      refine wpAnyE_take (i := 1) (v := ?_) (some 63) rfl rfl (by kernel_rfl) (by kernel_rfl) (by kernel_rfl) (fun _ _ _ h => h) ?_ ?_
      rotate_left 1
      · (refine Or.inl ⟨by rfl, ?_⟩; intro w' hw'; have hq := below_via hcur hw'; have hq_e0 := Ext.trans e0 hw'; (try go_simp); (try rfl); done)
      try simp only [Act.put, List.setIfInBounds_toArray, List.set_cons_zero, List.set_cons_succ]
      refine wpAnyE_take (i := 2) (v := ?_) (some 64) rfl rfl (by kernel_rfl) (by kernel_rfl) (by kernel_rfl) (fun _ _ _ h => h) ?_ ?_
      rotate_left 1
      · (refine Or.inl ⟨by rfl, ?_⟩; intro w' hw'; have hq := below_via hcur hw'; have hq_e0 := Ext.trans e0 hw'; (try go_simp); (try rfl); done)
      try simp only [Act.put, List.setIfInBounds_toArray, List.set_cons_zero, List.set_cons_succ]
      refine wpAnyE_take (i := 3) (v := ?_) (some 65) rfl rfl (by kernel_rfl) (by kernel_rfl) (by kernel_rfl) (fun _ _ _ h => h) ?_ ?_
      rotate_left 1
      · (refine Or.inl ⟨by rfl, ?_⟩; intro w' hw'; have hq := below_via hcur hw'; have hq_e0 := Ext.trans e0 hw'; have hcl := cA _ hq_e0; (try go_simp); (try rfl); done)
      try simp only [Act.put, List.setIfInBounds_toArray, List.set_cons_zero, List.set_cons_succ]
      refine wpAnyE_take (i := 4) (v := ?_) (some 66) rfl rfl (by kernel_rfl) (by kernel_rfl) (by kernel_rfl) (fun _ _ _ h => h) ?_ ?_
      rotate_left 1
      · (refine Or.inl ⟨by rfl, ?_⟩; intro w' hw'; have hq := below_via hcur hw'; have hq_e0 := Ext.trans e0 hw'; (try go_simp); (try rfl); done)
      try simp only [Act.put, List.setIfInBounds_toArray, List.set_cons_zero, List.set_cons_succ]
      refine wpAnyE_take (i := 5) (v := ?_) (some 67) rfl rfl (by kernel_rfl) (by kernel_rfl) (by kernel_rfl) (fun _ _ _ h => h) ?_ ?_
      rotate_left 1
      · (refine Or.inl ⟨by rfl, ?_⟩; intro w' hw'; have hq := below_via hcur hw'; have hq_e0 := Ext.trans e0 hw'; (try go_simp); (try rfl); done)
      try simp only [Act.put, List.setIfInBounds_toArray, List.set_cons_zero, List.set_cons_succ]
      refine wpAnyE_take (i := 6) (v := ?_) (some 68) rfl rfl (by kernel_rfl) (by kernel_rfl) (by kernel_rfl) (fun _ _ _ h => h) ?_ ?_
      rotate_left 1
      · (refine Or.inl ⟨by rfl, ?_⟩; intro w' hw'; have hq := below_via hcur hw'; have hq_e0 := Ext.trans e0 hw'; (try go_simp); (try rfl); done)
      try simp only [Act.put, List.setIfInBounds_toArray, List.set_cons_zero, List.set_cons_succ]
      refine wpAnyE_take (i := 7) (v := ?_) (some 69) rfl rfl (by kernel_rfl) (by kernel_rfl) (by kernel_rfl) (fun _ _ _ h => h) ?_ ?_
      rotate_left 1
      · (refine Or.inl ⟨by rfl, ?_⟩; intro w' hw'; have hq := below_via hcur hw'; have hq_e0 := Ext.trans e0 hw'; have hcl := cB _ hq_e0; (try go_simp); (try rfl); done)
      try simp only [Act.put, List.setIfInBounds_toArray, List.set_cons_zero, List.set_cons_succ]
      refine wpAnyE_one (i := 8) rfl (by kernel_rfl) (by rfl) (fun K hK => ?_)
      go_simp
      (with_reducible refine (hsd _ (fx _ e0) (fy _ e0)).mono ?_); rintro e w10 ⟨rfl, hb⟩
      refine hK.out _ _ hb ?_
      replace hcur := below_via hcur hb; clear hK K
      replace e0 := Ext.trans e0 hb
      try simp only [Act.put, List.setIfInBounds_toArray, List.set_cons_zero, List.set_cons_succ]
      refine wpAnyE_take (i := 9) (v := ?_) (some 71) rfl rfl (by kernel_rfl) (by kernel_rfl) (by kernel_rfl) (fun _ _ _ h => h) ?_ ?_
      rotate_left 1
      · (refine Or.inl ⟨by rfl, ?_⟩; intro w' hw'; have hq := below_via hcur hw'; have hq_e0 := Ext.trans e0 hw'; (try go_simp); (try rfl); done)
      try simp only [Act.put, List.setIfInBounds_toArray, List.set_cons_zero, List.set_cons_succ]
      refine wpAnyE_done (by kernel_rfl) ?_ _
      have hla1 := hla.below e0
      have hlb1 := hlb.below e0
      have hrb1 := hrb.below e0
      have hrow1 : ∀ j v d, i + 1 ≤ j → vs[j]? = some v → dss[j]? = some d → OwD w7.heap.size w10 v d ∧ 0 < d.length := fun j v d hj h1 h2 => ⟨(hrow j v d (by omega) h1 h2).1.below e0, (hrow j v d (by omega) h1 h2).2⟩
      have hox1 := hox.below e0
      have bw1 := Below.trans bw (e0.mono zw)
      have cA1 := cA _ e0
      have cB1 := cB _ e0
      have hz1 := Nat.le_trans hz e0.size
      have zw1 := bw1.size
      have hgx3 : gx < w10.heap.size := Nat.lt_of_lt_of_le hgx2 e0.size
      clear hla hlb hrb hrow hox hoy bw cA cB fx fy hsd cA0 cB0 hgx2 e0 hcur
      have hfl : (bs d.flatten).length = d.length * 32 := by rw [bs_length, hox1.2.flat]
      have hzl : d.flatten.length = d.length * 32 := hox1.2.flat
      have hrx := hox1.1
      have iL3 : (i : Int) < dss.length := by omega
      have bww := Below.trans bw7 (bw1.mono bw7.size)
      clear hfl iL iL2
      generalize d.flatten = zs0 at *
      go_wp2_with fail
      go_loopw [15] (fun ix w' => ∃ (k : Nat) (zs : List UInt8), k ≤ d.length ∧ ix = .int .i64 k ∧ zs.length = d.length * 32 ∧ w'.ownsRow w7.heap.size 25 32 (.slice (some ⟨gx, 0, none⟩) d.length cx) d.length (bs zs) ∧ w10.grownBy w' (some gx)) (fun ix _ => d.length - (intOf ix).toNat)
      case atStart => exact ⟨0, zs0, by omega, rfl, hzl, hrx, gr_refl _ _⟩
      case round =>
        obtain ⟨k, zs, hk, rfl, hzz, ho, hg⟩ := hrel
        have cA2 := hg.cell cA1 (by intro h; injection h with h; exact gne h)
        replace hzz : Hid _ := hzz
        clear hrx hzl
        by_cases hkl : k < d.length
        · have f1 := World.ownsRow.cellAt ho (k * 32) (by omega)
          rw [bs_get zs (show k * 32 < zs.length by rw [hzz.out]; omega)] at f1
          have f2 := World.ownsRow.frozenAt ho (k * 32)
          have hset := World.ownsRow.stored (w := wr.drew) ho (k * 32) (.int .u8 (c8 (zs.getD (k * 32) 0 ^^^ 1)))
          have hbs : (bs zs).set (k * 32) (.int .u8 (c8 (zs.getD (k * 32) 0 ^^^ 1))) = bs (zs.set (k * 32) (zs.getD (k * 32) 0 ^^^ 1)) := by simp [bs, List.map_set]
          rw [hbs] at hset
          have hsl2 : Hid ((zs.set (k * 32) (zs.getD (k * 32) 0 ^^^ 1)).length = d.length * 32) := by unfold Hid; rw [List.length_set]; exact hzz.out
          clear hbs
          generalize zs.set (k * 32) (zs.getD (k * 32) 0 ^^^ 1) = zs2 at *
          generalize zs.getD (k * 32) 0 = y at *
          have hcur : Below w.heap.size w wr := below_gr bww hg (by have := bww.size; omega) (by have := bw7.size; omega)
          have e0 := Ext.refl wr
          have cA := fun (w' : World) (h : Ext wr w') => (h.cell (World.block_lt_of_cell? _ _ cA2)).trans cA2
          have cF := fun (w' : World) (h : Ext wr w') => (h.cell (World.block_lt_of_cell? _ _ f1)).trans f1
          have kI : (k : Int) < d.length := by omega
          clear ho
          go_wp2_with fail
          refine wp_region_F 11 (by kernel_rfl) (fun hcl => ?_)
          replace hcur := below_via hcur (ext_drew _)
          replace e0 := Ext.trans e0 (ext_drew _)
          refine wpAnyF_take (fin := 11) (i := 0) (v := ?_) hcl (some 81) rfl rfl (by kernel_rfl) (by kernel_rfl) (by kernel_rfl) (fun _ _ _ h => h) (by kernel_rfl) ?_ (fun hcl => ?_)
          rotate_left 1
          · (refine Or.inl ⟨by rfl, ?_⟩; intro w' hw'; have hq := below_via hcur hw'; have hq_e0 := Ext.trans e0 hw'; (try go_simp); (try rfl); done)
          try simp only [Act.put, List.setIfInBounds_toArray, List.set_cons_zero, List.set_cons_succ]
          refine wpAnyF_take (fin := 11) (i := 1) (v := ?_) hcl (some 82) rfl rfl (by kernel_rfl) (by kernel_rfl) (by kernel_rfl) (fun _ _ _ h => h) (by kernel_rfl) ?_ (fun hcl => ?_)
          rotate_left 1
          · (refine Or.inl ⟨by rfl, ?_⟩; intro w' hw'; have hq := below_via hcur hw'; have hq_e0 := Ext.trans e0 hw'; (try go_simp); (try rfl); done)
          try simp only [Act.put, List.setIfInBounds_toArray, List.set_cons_zero, List.set_cons_succ]
          refine wpAnyF_take (fin := 11) (i := 2) (v := ?_) hcl (some 83) rfl rfl (by kernel_rfl) (by kernel_rfl) (by kernel_rfl) (fun _ _ _ h => h) (by kernel_rfl) ?_ (fun hcl => ?_)
          rotate_left 1
          · (refine Or.inl ⟨by rfl, ?_⟩; intro w' hw'; have hq := below_via hcur hw'; have hq_e0 := Ext.trans e0 hw'; (try go_simp); (try rfl); done)
          try simp only [Act.put, List.setIfInBounds_toArray, List.set_cons_zero, List.set_cons_succ]
          refine wpAnyF_take (fin := 11) (i := 3) (v := ?_) hcl (some 84) rfl rfl (by kernel_rfl) (by kernel_rfl) (by kernel_rfl) (fun _ _ _ h => h) (by kernel_rfl) ?_ (fun hcl => ?_)
          rotate_left 1
          · (refine Or.inl ⟨by rfl, ?_⟩; intro w' hw'; have hq := below_via hcur hw'; have hq_e0 := Ext.trans e0 hw'; have hcl := cA _ hq_e0; (try go_simp); (try rfl); done)
          try simp only [Act.put, List.setIfInBounds_toArray, List.set_cons_zero, List.set_cons_succ]
          refine wpAnyF_take (fin := 11) (i := 4) (v := ?_) hcl (some 85) rfl rfl (by kernel_rfl) (by kernel_rfl) (by kernel_rfl) (fun _ _ _ h => h) (by kernel_rfl) ?_ (fun hcl => ?_)
          rotate_left 1
          · (refine Or.inl ⟨by rfl, ?_⟩; intro w' hw'; have hq := below_via hcur hw'; have hq_e0 := Ext.trans e0 hw'; (try go_simp); (try rfl); done)
          try simp only [Act.put, List.setIfInBounds_toArray, List.set_cons_zero, List.set_cons_succ]
          refine wpAnyF_take (fin := 11) (i := 5) (v := ?_) hcl (some 86) rfl rfl (by kernel_rfl) (by kernel_rfl) (by kernel_rfl) (fun _ _ _ h => h) (by kernel_rfl) ?_ (fun hcl => ?_)
          rotate_left 1
          · (refine Or.inl ⟨by rfl, ?_⟩; intro w' hw'; have hq := below_via hcur hw'; have hq_e0 := Ext.trans e0 hw'; (try go_simp); (try rfl); done)
          try simp only [Act.put, List.setIfInBounds_toArray, List.set_cons_zero, List.set_cons_succ]
          refine wpAnyF_take (fin := 11) (i := 6) (v := ?_) hcl (some 87) rfl rfl (by kernel_rfl) (by kernel_rfl) (by kernel_rfl) (fun _ _ _ h => h) (by kernel_rfl) ?_ (fun hcl => ?_)
          rotate_left 1
          · (refine Or.inl ⟨by rfl, ?_⟩; intro w' hw'; have hq := below_via hcur hw'; have hq_e0 := Ext.trans e0 hw'; (try go_simp); (try rfl); done)
          try simp only [Act.put, List.setIfInBounds_toArray, List.set_cons_zero, List.set_cons_succ]
          refine wpAnyF_take (fin := 11) (i := 7) (v := ?_) hcl (some 88) rfl rfl (by kernel_rfl) (by kernel_rfl) (by kernel_rfl) (fun _ _ _ h => h) (by kernel_rfl) ?_ (fun hcl => ?_)
          rotate_left 1
          · (refine Or.inl ⟨by rfl, ?_⟩; intro w' hw'; have hq := below_via hcur hw'; have hq_e0 := Ext.trans e0 hw'; have hcl := cF _ hq_e0; (try go_simp); (try rfl); done)
          try simp only [Act.put, List.setIfInBounds_toArray, List.set_cons_zero, List.set_cons_succ]
          refine wpAnyF_take (fin := 11) (i := 8) (v := ?_) hcl (some 89) rfl rfl (by kernel_rfl) (by kernel_rfl) (by kernel_rfl) (fun _ _ _ h => h) (by kernel_rfl) ?_ (fun hcl => ?_)
          rotate_left 1
          · (refine Or.inl ⟨by rfl, ?_⟩; intro w' hw'; have hq := below_via hcur hw'; have hq_e0 := Ext.trans e0 hw'; (try go_simp); (try rfl); done)
          try simp only [Act.put, List.setIfInBounds_toArray, List.set_cons_zero, List.set_cons_succ]
          refine wpAnyF_take (fin := 11) (i := 9) (v := ?_) hcl (some 90) rfl rfl (by kernel_rfl) (by kernel_rfl) (by kernel_rfl) (fun _ _ _ h => h) (by kernel_rfl) ?_ (fun hcl => ?_)
          rotate_left 1
          · (refine Or.inl ⟨by rfl, ?_⟩; intro w' hw'; have hq := below_via hcur hw'; have hq_e0 := Ext.trans e0 hw'; (try go_simp); (try rfl); done)
          try simp only [Act.put, List.setIfInBounds_toArray, List.set_cons_zero, List.set_cons_succ]
          refine wpAnyF_take (fin := 11) (i := 10) (v := ?_) hcl (some 91) rfl rfl (by kernel_rfl) (by kernel_rfl) (by kernel_rfl) (fun _ _ _ h => h) (by kernel_rfl) ?_ (fun hcl => ?_)
          rotate_left 1
          · (refine Or.inl ⟨by rfl, ?_⟩; intro w' hw'; have hq := below_via hcur hw'; have hq_e0 := Ext.trans e0 hw'; (try go_simp); (try rfl); done)
          try simp only [Act.put, List.setIfInBounds_toArray, List.set_cons_zero, List.set_cons_succ]
          refine wpAnyF_last (fin := 11) rfl (by kernel_rfl) (by kernel_rfl) (by rfl) (fun K hK => ?_)
          go_simp
          rw [xor1]
          refine hK.out _ _ ?_
          clear hK K hcl
          go_wp2_with fail
          go_roundw
          case rel => exact ⟨k + 1, zs2, by omega, by go_num, hsl2.out, hset.1, gr_trans (gr_drew hg) hset.2⟩
          case measure => simp [intOf]; omega
        · obtain rfl : k = d.length := by omega
          go_wp2_with fail
          go_roundw
          case rel =>
            refine ⟨i + 1, by omega, by go_num, hla1.kept hg (.inr (by intro h; injection h with h; exact gne h)), fun j v d' hj h1 h2 => ?_, hlb1.kept hg (.inr (by intro h; injection h with h; exact gne2 h)), hrb1.kept hg (fun u hu => ?_), below_gr bw1 hg zw1 (by omega), Nat.le_trans hz1 hg.size⟩
            · refine ⟨(hrow1 j v d' hj h1 h2).1.kept hg ?_, (hrow1 j v d' hj h1 h2).2⟩
              right; intro h
              exact hne i j _ v (by omega) hxi h1 (by rw [h]; rfl)
            · right; intro h
              obtain ⟨es, ho', _⟩ := hrb1.each hu
              have := (ho'.lt gx h).1
              omega
          case measure => simp [intOf]; omega
    · obtain rfl : i = dss.length := by omega
      have hvf := hv7.below bw
      have hmf := hom7.sl.below bw
      have bwf := Below.trans bw7 (bw.mono bw7.size)
      go_wp2_with fail
      (with_reducible refine (hsm _ _ ds _ (by omega) hmf hvf).mono ?_); rintro e w11 ⟨rfl, b11⟩
      go_wp2_with fail
      refine (wakes_any _).mono ?_; rintro e w12 ⟨rfl, b12⟩
      go_wp2_with fail
      go_ret
      exact ⟨rfl, Ext.trans bwf (Ext.trans b11 b12)⟩
end Go.Proofs.Ytidgomppehhkgaa
