/- Lists that are the same (walks). -/
import Derived.Test.YtnpbapefjbfndaaZExtX
set_option linter.unusedVariables false
set_option linter.unusedSimpArgs false
set_option maxRecDepth 10000
namespace Go.Proofs.Ytnpbapefjbfndaa
open Go.RowKit
attribute [local go_sem high] rs_l rs_lh rs_lhm rs_h rs_hm rs_all

theorem getD_ne {xs ys : List (List UInt8)} {k : Nat} (h : xs.getD k [] ≠ ys.getD k []) : decide (xs = ys) = false := decide_eq_false fun e => h (by rw [e])
theorem len_ne {xs ys : List (List UInt8)} (h : xs.length ≠ ys.length) : decide (xs = ys) = false := decide_eq_false fun e => h (by rw [e])
theorem take_next {xs ys : List (List UInt8)} {k : Nat} (hx : k < xs.length) (hy : k < ys.length) (h : xs.take k = ys.take k) (e : xs.getD k [] = ys.getD k []) : xs.take (k + 1) = ys.take (k + 1) := by
  rw [List.take_succ_eq_append_getElem hx, List.take_succ_eq_append_getElem hy, h]
  simp [hx, hy] at e
  rw [e]
set_option maxHeartbeats 4000000 in
theorem eqf_any (vx vy : Value) (xs ys : List (List UInt8)) (w : World) (hx : SlX w vx xs) (hy : SlX w vy ys) :
    Calls Try.prog 47 #[vx, vy, .func (.func 31) #[] #[]] w fun e w' => e = .returned (.bool (decide (xs = ys))) ∧ Below w.heap.size w w' := by
  obtain ⟨A, c, rfl, hc, hcm⟩ := hx.len
  obtain ⟨A', c', rfl, hc', hcm'⟩ := hy.len
  by_cases hl : xs.length = ys.length
  · obtain ⟨n, hn⟩ : ∃ n, n = xs.length := ⟨_, rfl⟩
    rw [← hn] at hl hc ⊢
    rw [← hl] at hc' ⊢
    have hx := hx
    have hy := hy
    rw [← hn] at hx
    rw [← hl] at hy
    replace hn : Hid _ := hn
    replace hl : Hid _ := hl
    go_enter Try.func47, Try.ntmps47
    go_wp2_with fail
    go_loopw [17] (fun i wr => ∃ k : Nat, k ≤ n ∧ i = .int .i64 k ∧ xs.take k = ys.take k ∧ Below w.heap.size w wr) (fun i _ => n - (intOf i).toNat)
    case atStart => exact ⟨0, by omega, rfl, rfl, Below.refl _ _⟩
    case round =>
      obtain ⟨k, hk, rfl, ht, bw⟩ := hrel
      by_cases hkn : k < n
      · have hlt : k < xs.length := by have := hn.out; omega
        have hlt' : k < ys.length := by have := hl.out; omega
        obtain ⟨ad, u, rfl, hcell, hu, hone⟩ := (hx.below bw).get hlt
        obtain ⟨ad', u', rfl, hcell', hu', hone'⟩ := (hy.below bw).get hlt'
        have hnext := take_next hlt hlt' ht
        have hne := fun h => getD_ne (xs := xs) (ys := ys) (k := k) h
        clear hlt hlt'
        generalize xs.getD k [] = x at *
        generalize ys.getD k [] = y at *
        have he := fun w' (h : Below wr.heap.size wr w') => equal_any u u' x y w' (hu.below h) (hu'.below h)
        by_cases hxy : x = y
        · have hd : decide (x = y) = true := decide_eq_true hxy
          rw [hd] at he
          have hnx := hnext hxy
          replace hnx : Hid _ := hnx
          clear hnext hne ht
          go_wp2_with fail
          (with_reducible refine (he _ (Below.refl _ _)).mono ?_); rintro e w5 ⟨rfl, rfl⟩
          go_wp2_with fail
          go_roundw
          case rel => exact ⟨k + 1, by omega, by go_num, hnx.out, bw⟩
          case measure => simp [intOf]; omega
        · have hd : decide (x = y) = false := decide_eq_false hxy
          have hnx := hne hxy
          rw [hd] at he
          clear hnext hne ht
          go_wp2_with fail
          (with_reducible refine (he _ (Below.refl _ _)).mono ?_); rintro e w5 ⟨rfl, rfl⟩
          go_wp2_with fail
          go_ret
          exact ⟨by rw [hnx]; rfl, bw⟩
      · obtain rfl : k = n := by omega
        have e : xs = ys := by
          rw [hn.out, List.take_length, ← hn.out, hl.out, List.take_length] at ht; exact ht
        have hd : decide (xs = ys) = true := decide_eq_true e
        go_wp2_with fail
        go_ret
        exact ⟨by rw [hd]; rfl, bw⟩
  · have hd := len_ne hl
    have hll : ((xs.length : Int) == ys.length) = false := by rw [beq_eq_false_iff_ne]; omega
    go_enter Try.func47, Try.ntmps47
    go_wp2_with fail
    go_ret
    exact ⟨by rw [hd]; rfl, Below.refl _ _⟩
set_option maxHeartbeats 4000000 in
theorem same_any (vx vy : Value) (xs ys : List (List UInt8)) (w : World) (hx : SlX w vx xs) (hy : SlX w vy ys) :
    Calls Try.prog 29 #[vx, vy] w fun e w' => e = .returned (.bool (decide (xs = ys))) ∧ Below w.heap.size w w' := by
  have h := eqf_any vx vy xs ys w hx hy
  go_enter Try.func29, Try.ntmps29
  go_wp2_with fail
  refine h.mono ?_
  rintro e w' ⟨rfl, hb⟩
  go_wp2_with fail
  go_ret
  exact ⟨rfl, hb⟩
set_option maxHeartbeats 4000000 in
theorem rsame_any (vx vy : Value) (xs ys : List (List UInt8)) (w : World) (hx : SlX w vx xs) (hy : SlX w vy ys) :
    Calls Try.prog 19 #[vx, vy] w fun e w' => e = .returned (.bool (decide (xs = ys))) ∧ Below w.heap.size w w' := by
  obtain ⟨A, c, rfl, hc, hcm⟩ := hx.len
  obtain ⟨A', c', rfl, hc', hcm'⟩ := hy.len
  by_cases hl : xs.length = ys.length
  · obtain ⟨n, hn⟩ : ∃ n, n = xs.length := ⟨_, rfl⟩
    rw [← hn] at hl hc ⊢
    rw [← hl] at hc' ⊢
    have hx := hx
    have hy := hy
    rw [← hn] at hx
    rw [← hl] at hy
    replace hn : Hid _ := hn
    replace hl : Hid _ := hl
    go_enter Try.func19, Try.ntmps19
    go_wp2_with fail
    go_loopw [5] (fun i wr => ∃ k : Nat, k ≤ n ∧ i = .int .i64 k ∧ xs.take k = ys.take k ∧ Below w.heap.size w wr) (fun i _ => n - (intOf i).toNat)
    case atStart => exact ⟨0, by omega, rfl, rfl, Below.refl _ _⟩
    case round =>
      obtain ⟨k, hk, rfl, ht, bw⟩ := hrel
      by_cases hkn : k < n
      · have hlt : k < xs.length := by have := hn.out; omega
        have hlt' : k < ys.length := by have := hl.out; omega
        obtain ⟨ad, u, rfl, hcell, hu, hone⟩ := (hx.below bw).get hlt
        obtain ⟨ad', u', rfl, hcell', hu', hone'⟩ := (hy.below bw).get hlt'
        have hnext := take_next hlt hlt' ht
        have hne := fun h => getD_ne (xs := xs) (ys := ys) (k := k) h
        clear hlt hlt'
        generalize xs.getD k [] = x at *
        generalize ys.getD k [] = y at *
        have l1 := fun w' (h : Ext wr w') => (h.cell (World.block_lt_of_cell? _ _ hcell)).trans hcell
        have l2 := fun w' (h : Ext wr w') => (h.cell (World.block_lt_of_cell? _ _ hcell')).trans hcell'
        have k1 := fun (w' : World) (h : Ext wr w') => conv_sl (P := Try.prog) (dst := 9) Try.underlying23 Try.underlying5 Try.underlying9 (hu.below h)
        have k2 := fun (w' : World) (h : Ext wr w') => conv_sl (P := Try.prog) (dst := 9) Try.underlying23 Try.underlying5 Try.underlying9 (hu'.below h)
        have sb := str_beq x y
        have e0 := Ext.refl wr
        have hcur : Below w.heap.size w wr := bw
        by_cases hxy : x = y
        · have hd : decide (x = y) = true := decide_eq_true hxy
          have hnx := hnext hxy
          replace hnx : Hid _ := hnx
          have hxb : (x == y) = decide (x = y) := by rw [Bool.eq_iff_iff]; simp
          rw [hd] at hxb
          clear hnext hne ht hd hxy sb
          go_wp2_with fail
          refine wp_region_E (by kernel_rfl) ?_
          replace hcur := below_via hcur (ext_drew _)
          replace e0 := Ext.trans e0 (ext_drew _)
          refine wpAnyE_take (i := 0) (v := ?_) (some 17) rfl rfl (by kernel_rfl) (by kernel_rfl) (by kernel_rfl) (fun _ _ _ h => h) ?_ ?_
          rotate_left 1
          · (refine Or.inl ⟨by rfl, ?_⟩; intro w' hw'; have hq := below_via hcur hw'; have hq_e0 := Ext.trans e0 hw'; have hz_l1 := l1 _ hq_e0; have hz_l2 := l2 _ hq_e0; have hz_k1 := k1 _ hq_e0; have hz_k2 := k2 _ hq_e0; (try go_simp); (try rfl); done)
          try simp only [Act.put, List.setIfInBounds_toArray, List.set_cons_zero, List.set_cons_succ]
          refine wpAnyE_take (i := 1) (v := ?_) (some 18) rfl rfl (by kernel_rfl) (by kernel_rfl) (by kernel_rfl) (fun _ _ _ h => h) ?_ ?_
          rotate_left 1
          · (refine Or.inl ⟨by rfl, ?_⟩; intro w' hw'; have hq := below_via hcur hw'; have hq_e0 := Ext.trans e0 hw'; have hz_l1 := l1 _ hq_e0; have hz_l2 := l2 _ hq_e0; have hz_k1 := k1 _ hq_e0; have hz_k2 := k2 _ hq_e0; (try go_simp); (try rfl); done)
          try simp only [Act.put, List.setIfInBounds_toArray, List.set_cons_zero, List.set_cons_succ]
          refine wpAnyE_take (i := 2) (v := ?_) (some 19) rfl rfl (by kernel_rfl) (by kernel_rfl) (by kernel_rfl) (fun _ _ _ h => h) ?_ ?_
          rotate_left 1
          · (refine Or.inl ⟨by rfl, ?_⟩; intro w' hw'; have hq := below_via hcur hw'; have hq_e0 := Ext.trans e0 hw'; have hz_l1 := l1 _ hq_e0; have hz_l2 := l2 _ hq_e0; have hz_k1 := k1 _ hq_e0; have hz_k2 := k2 _ hq_e0; (try go_simp); (try rfl); done)
          try simp only [Act.put, List.setIfInBounds_toArray, List.set_cons_zero, List.set_cons_succ]
          refine wpAnyE_take (i := 3) (v := ?_) (some 20) rfl rfl (by kernel_rfl) (by kernel_rfl) (by kernel_rfl) (fun _ _ _ h => h) ?_ ?_
          rotate_left 1
          · (refine Or.inl ⟨by rfl, ?_⟩; intro w' hw'; have hq := below_via hcur hw'; have hq_e0 := Ext.trans e0 hw'; have hz_l1 := l1 _ hq_e0; have hz_l2 := l2 _ hq_e0; have hz_k1 := k1 _ hq_e0; have hz_k2 := k2 _ hq_e0; (try go_simp); (try rfl); done)
          try simp only [Act.put, List.setIfInBounds_toArray, List.set_cons_zero, List.set_cons_succ]
          refine wpAnyE_take (i := 4) (v := ?_) (some 21) rfl rfl (by kernel_rfl) (by kernel_rfl) (by kernel_rfl) (fun _ _ _ h => h) ?_ ?_
          rotate_left 1
          · (refine Or.inl ⟨by rfl, ?_⟩; intro w' hw'; have hq := below_via hcur hw'; have hq_e0 := Ext.trans e0 hw'; have hz_l1 := l1 _ hq_e0; have hz_l2 := l2 _ hq_e0; have hz_k1 := k1 _ hq_e0; have hz_k2 := k2 _ hq_e0; (try go_simp); (try rfl); done)
          try simp only [Act.put, List.setIfInBounds_toArray, List.set_cons_zero, List.set_cons_succ]
          refine wpAnyE_take (i := 5) (v := ?_) (some 22) rfl rfl (by kernel_rfl) (by kernel_rfl) (by kernel_rfl) (fun _ _ _ h => h) ?_ ?_
          rotate_left 1
          · (refine Or.inl ⟨by rfl, ?_⟩; intro w' hw'; have hq := below_via hcur hw'; have hq_e0 := Ext.trans e0 hw'; have hz_l1 := l1 _ hq_e0; have hz_l2 := l2 _ hq_e0; have hz_k1 := k1 _ hq_e0; have hz_k2 := k2 _ hq_e0; (try go_simp); (try rfl); done)
          try simp only [Act.put, List.setIfInBounds_toArray, List.set_cons_zero, List.set_cons_succ]
          refine wpAnyE_take (i := 6) (v := ?_) (some 23) rfl rfl (by kernel_rfl) (by kernel_rfl) (by kernel_rfl) (fun _ _ _ h => h) ?_ ?_
          rotate_left 1
          · (refine Or.inl ⟨by rfl, ?_⟩; intro w' hw'; have hq := below_via hcur hw'; have hq_e0 := Ext.trans e0 hw'; have hz_l1 := l1 _ hq_e0; have hz_l2 := l2 _ hq_e0; have hz_k1 := k1 _ hq_e0; have hz_k2 := k2 _ hq_e0; (try go_simp); (try rfl); done)
          try simp only [Act.put, List.setIfInBounds_toArray, List.set_cons_zero, List.set_cons_succ]
          refine wpAnyE_take (i := 7) (v := ?_) (some 24) rfl rfl (by kernel_rfl) (by kernel_rfl) (by kernel_rfl) (fun _ _ _ h => h) ?_ ?_
          rotate_left 1
          · (refine Or.inl ⟨by rfl, ?_⟩; intro w' hw'; have hq := below_via hcur hw'; have hq_e0 := Ext.trans e0 hw'; have hz_l1 := l1 _ hq_e0; have hz_l2 := l2 _ hq_e0; have hz_k1 := k1 _ hq_e0; have hz_k2 := k2 _ hq_e0; (try go_simp); (try rfl); done)
          try simp only [Act.put, List.setIfInBounds_toArray, List.set_cons_zero, List.set_cons_succ]
          refine wpAnyE_take (i := 8) (v := ?_) (some 25) rfl rfl (by kernel_rfl) (by kernel_rfl) (by kernel_rfl) (fun _ _ _ h => h) ?_ ?_
          rotate_left 1
          · (refine Or.inl ⟨by rfl, ?_⟩; intro w' hw'; have hq := below_via hcur hw'; have hq_e0 := Ext.trans e0 hw'; have hz_l1 := l1 _ hq_e0; have hz_l2 := l2 _ hq_e0; have hz_k1 := k1 _ hq_e0; have hz_k2 := k2 _ hq_e0; (try go_simp); (try rfl); done)
          try simp only [Act.put, List.setIfInBounds_toArray, List.set_cons_zero, List.set_cons_succ]
          refine wpAnyE_take (i := 9) (v := ?_) (some 26) rfl rfl (by kernel_rfl) (by kernel_rfl) (by kernel_rfl) (fun _ _ _ h => h) ?_ ?_
          rotate_left 1
          · (refine Or.inl ⟨by rfl, ?_⟩; intro w' hw'; have hq := below_via hcur hw'; have hq_e0 := Ext.trans e0 hw'; have hz_l1 := l1 _ hq_e0; have hz_l2 := l2 _ hq_e0; have hz_k1 := k1 _ hq_e0; have hz_k2 := k2 _ hq_e0; (try go_simp); (try rfl); done)
          try simp only [Act.put, List.setIfInBounds_toArray, List.set_cons_zero, List.set_cons_succ]
          refine wpAnyE_take (i := 10) (v := ?_) (some 27) rfl rfl (by kernel_rfl) (by kernel_rfl) (by kernel_rfl) (fun _ _ _ h => h) ?_ ?_
          rotate_left 1
          · (refine Or.inl ⟨by rfl, ?_⟩; intro w' hw'; have hq := below_via hcur hw'; have hq_e0 := Ext.trans e0 hw'; have hz_l1 := l1 _ hq_e0; have hz_l2 := l2 _ hq_e0; have hz_k1 := k1 _ hq_e0; have hz_k2 := k2 _ hq_e0; (try go_simp); (try rfl); done)
          try simp only [Act.put, List.setIfInBounds_toArray, List.set_cons_zero, List.set_cons_succ]
          refine wpAnyE_done (by kernel_rfl) ?_ _
          go_wp2_with fail
          go_roundw
          case rel => exact ⟨k + 1, by omega, by go_num, hnx.out, hcur⟩
          case measure => simp [intOf]; omega
        · have hd : decide (x = y) = false := decide_eq_false hxy
          have hnx := hne hxy
          have hxb : (x == y) = decide (x = y) := by rw [Bool.eq_iff_iff]; simp
          rw [hd] at hxb
          clear hnext hne ht hd hxy sb
          go_wp2_with fail
          refine wp_region_E (by kernel_rfl) ?_
          replace hcur := below_via hcur (ext_drew _)
          replace e0 := Ext.trans e0 (ext_drew _)
          refine wpAnyE_take (i := 0) (v := ?_) (some 17) rfl rfl (by kernel_rfl) (by kernel_rfl) (by kernel_rfl) (fun _ _ _ h => h) ?_ ?_
          rotate_left 1
          · (refine Or.inl ⟨by rfl, ?_⟩; intro w' hw'; have hq := below_via hcur hw'; have hq_e0 := Ext.trans e0 hw'; have hz_l1 := l1 _ hq_e0; have hz_l2 := l2 _ hq_e0; have hz_k1 := k1 _ hq_e0; have hz_k2 := k2 _ hq_e0; (try go_simp); (try rfl); done)
          try simp only [Act.put, List.setIfInBounds_toArray, List.set_cons_zero, List.set_cons_succ]
          refine wpAnyE_take (i := 1) (v := ?_) (some 18) rfl rfl (by kernel_rfl) (by kernel_rfl) (by kernel_rfl) (fun _ _ _ h => h) ?_ ?_
          rotate_left 1
          · (refine Or.inl ⟨by rfl, ?_⟩; intro w' hw'; have hq := below_via hcur hw'; have hq_e0 := Ext.trans e0 hw'; have hz_l1 := l1 _ hq_e0; have hz_l2 := l2 _ hq_e0; have hz_k1 := k1 _ hq_e0; have hz_k2 := k2 _ hq_e0; (try go_simp); (try rfl); done)
          try simp only [Act.put, List.setIfInBounds_toArray, List.set_cons_zero, List.set_cons_succ]
          refine wpAnyE_take (i := 2) (v := ?_) (some 19) rfl rfl (by kernel_rfl) (by kernel_rfl) (by kernel_rfl) (fun _ _ _ h => h) ?_ ?_
          rotate_left 1
          · (refine Or.inl ⟨by rfl, ?_⟩; intro w' hw'; have hq := below_via hcur hw'; have hq_e0 := Ext.trans e0 hw'; have hz_l1 := l1 _ hq_e0; have hz_l2 := l2 _ hq_e0; have hz_k1 := k1 _ hq_e0; have hz_k2 := k2 _ hq_e0; (try go_simp); (try rfl); done)
          try simp only [Act.put, List.setIfInBounds_toArray, List.set_cons_zero, List.set_cons_succ]
          refine wpAnyE_take (i := 3) (v := ?_) (some 20) rfl rfl (by kernel_rfl) (by kernel_rfl) (by kernel_rfl) (fun _ _ _ h => h) ?_ ?_
          rotate_left 1
          · (refine Or.inl ⟨by rfl, ?_⟩; intro w' hw'; have hq := below_via hcur hw'; have hq_e0 := Ext.trans e0 hw'; have hz_l1 := l1 _ hq_e0; have hz_l2 := l2 _ hq_e0; have hz_k1 := k1 _ hq_e0; have hz_k2 := k2 _ hq_e0; (try go_simp); (try rfl); done)
          try simp only [Act.put, List.setIfInBounds_toArray, List.set_cons_zero, List.set_cons_succ]
          refine wpAnyE_take (i := 4) (v := ?_) (some 21) rfl rfl (by kernel_rfl) (by kernel_rfl) (by kernel_rfl) (fun _ _ _ h => h) ?_ ?_
          rotate_left 1
          · (refine Or.inl ⟨by rfl, ?_⟩; intro w' hw'; have hq := below_via hcur hw'; have hq_e0 := Ext.trans e0 hw'; have hz_l1 := l1 _ hq_e0; have hz_l2 := l2 _ hq_e0; have hz_k1 := k1 _ hq_e0; have hz_k2 := k2 _ hq_e0; (try go_simp); (try rfl); done)
          try simp only [Act.put, List.setIfInBounds_toArray, List.set_cons_zero, List.set_cons_succ]
          refine wpAnyE_take (i := 5) (v := ?_) (some 22) rfl rfl (by kernel_rfl) (by kernel_rfl) (by kernel_rfl) (fun _ _ _ h => h) ?_ ?_
          rotate_left 1
          · (refine Or.inl ⟨by rfl, ?_⟩; intro w' hw'; have hq := below_via hcur hw'; have hq_e0 := Ext.trans e0 hw'; have hz_l1 := l1 _ hq_e0; have hz_l2 := l2 _ hq_e0; have hz_k1 := k1 _ hq_e0; have hz_k2 := k2 _ hq_e0; (try go_simp); (try rfl); done)
          try simp only [Act.put, List.setIfInBounds_toArray, List.set_cons_zero, List.set_cons_succ]
          refine wpAnyE_take (i := 6) (v := ?_) (some 23) rfl rfl (by kernel_rfl) (by kernel_rfl) (by kernel_rfl) (fun _ _ _ h => h) ?_ ?_
          rotate_left 1
          · (refine Or.inl ⟨by rfl, ?_⟩; intro w' hw'; have hq := below_via hcur hw'; have hq_e0 := Ext.trans e0 hw'; have hz_l1 := l1 _ hq_e0; have hz_l2 := l2 _ hq_e0; have hz_k1 := k1 _ hq_e0; have hz_k2 := k2 _ hq_e0; (try go_simp); (try rfl); done)
          try simp only [Act.put, List.setIfInBounds_toArray, List.set_cons_zero, List.set_cons_succ]
          refine wpAnyE_take (i := 7) (v := ?_) (some 24) rfl rfl (by kernel_rfl) (by kernel_rfl) (by kernel_rfl) (fun _ _ _ h => h) ?_ ?_
          rotate_left 1
          · (refine Or.inl ⟨by rfl, ?_⟩; intro w' hw'; have hq := below_via hcur hw'; have hq_e0 := Ext.trans e0 hw'; have hz_l1 := l1 _ hq_e0; have hz_l2 := l2 _ hq_e0; have hz_k1 := k1 _ hq_e0; have hz_k2 := k2 _ hq_e0; (try go_simp); (try rfl); done)
          try simp only [Act.put, List.setIfInBounds_toArray, List.set_cons_zero, List.set_cons_succ]
          refine wpAnyE_take (i := 8) (v := ?_) (some 25) rfl rfl (by kernel_rfl) (by kernel_rfl) (by kernel_rfl) (fun _ _ _ h => h) ?_ ?_
          rotate_left 1
          · (refine Or.inl ⟨by rfl, ?_⟩; intro w' hw'; have hq := below_via hcur hw'; have hq_e0 := Ext.trans e0 hw'; have hz_l1 := l1 _ hq_e0; have hz_l2 := l2 _ hq_e0; have hz_k1 := k1 _ hq_e0; have hz_k2 := k2 _ hq_e0; (try go_simp); (try rfl); done)
          try simp only [Act.put, List.setIfInBounds_toArray, List.set_cons_zero, List.set_cons_succ]
          refine wpAnyE_take (i := 9) (v := ?_) (some 26) rfl rfl (by kernel_rfl) (by kernel_rfl) (by kernel_rfl) (fun _ _ _ h => h) ?_ ?_
          rotate_left 1
          · (refine Or.inl ⟨by rfl, ?_⟩; intro w' hw'; have hq := below_via hcur hw'; have hq_e0 := Ext.trans e0 hw'; have hz_l1 := l1 _ hq_e0; have hz_l2 := l2 _ hq_e0; have hz_k1 := k1 _ hq_e0; have hz_k2 := k2 _ hq_e0; (try go_simp); (try rfl); done)
          try simp only [Act.put, List.setIfInBounds_toArray, List.set_cons_zero, List.set_cons_succ]
          refine wpAnyE_take (i := 10) (v := ?_) (some 27) rfl rfl (by kernel_rfl) (by kernel_rfl) (by kernel_rfl) (fun _ _ _ h => h) ?_ ?_
          rotate_left 1
          · (refine Or.inl ⟨by rfl, ?_⟩; intro w' hw'; have hq := below_via hcur hw'; have hq_e0 := Ext.trans e0 hw'; have hz_l1 := l1 _ hq_e0; have hz_l2 := l2 _ hq_e0; have hz_k1 := k1 _ hq_e0; have hz_k2 := k2 _ hq_e0; (try go_simp); (try rfl); done)
          try simp only [Act.put, List.setIfInBounds_toArray, List.set_cons_zero, List.set_cons_succ]
          refine wpAnyE_done (by kernel_rfl) ?_ _
          go_wp2_with fail
          go_ret
          exact ⟨by rw [hnx]; rfl, hcur⟩
      · obtain rfl : k = n := by omega
        have e : xs = ys := by
          rw [hn.out, List.take_length, ← hn.out, hl.out, List.take_length] at ht; exact ht
        have hd : decide (xs = ys) = true := decide_eq_true e
        go_wp2_with fail
        go_ret
        exact ⟨by rw [hd]; rfl, bw⟩
  · have hd := len_ne hl
    have hll : ((xs.length : Int) == ys.length) = false := by rw [beq_eq_false_iff_ne]; omega
    go_enter Try.func19, Try.ntmps19
    go_wp2_with fail
    go_ret
    exact ⟨by rw [hd]; rfl, Below.refl _ _⟩
end Go.Proofs.Ytnpbapefjbfndaa
