/- Path and Proof of the reference (walks). -/
import Derived.Test.YtnpbapefjbfndaaZExrH
import Derived.Test.YtnpbapefjbfndaaZXd
set_option linter.unusedVariables false
set_option linter.unusedSimpArgs false
set_option maxRecDepth 10000
namespace Go.Proofs.Ytnpbapefjbfndaa
open Go.RowKit
attribute [local go_sem high] dg_cells guard_dg rs_l rs_lh rs_lhm rs_h rs_hm rs_all

theorem wp_apD_at (d : Option Tmp) {w : World} {o : Oper} {a : Act} {K : Act → World → Prop} {Q : Exit → Act → World → Prop}
    (s x : Operand) (hop : o.op = Op.call { callee := Callee.builtin Builtin.append, args := #[s, x], argTypes := #[46, 46] }) (hd : o.dst = d)
    {B : Nat} {v vx : Value} {xs ys : List (List UInt8)} (hs : a.eval s = v) (hown : OwD B w v xs) (hx : a.eval x = vx) (hsrc : SlD w vx ys) (hne : ys ≠ [])
    (hlen : xs.length + ys.length ≤ 1099511627776) (hB : B ≤ w.heap.size)
    (hK : ∀ v' w', OwD B w' v' (xs ++ ys) → Below B w w' → K (a.put d v') w') : o.wp Try.prog a w K Q := by
  subst hd; exact wp_apD s x hop hs hown hx hsrc hne hlen hB fun v' w' h1 _ h3 => hK v' w' h1 h3
theorem wp_bD_at (d : Option Tmp) {o : Oper} {a : Act} {w : World} {K : Act → World → Prop} {Q : Exit → Act → World → Prop} {x : List UInt8} (hx : x.length = 32) (y : Operand) (ho : o.op = .buildSlice 46 1 #[(0, y)]) (hd : o.dst = d) (hy : a.eval y = dg x)
    (h : K (a.put d (.slice (.some ⟨w.heap.size, 0, none⟩) 1 1)) (w.alloc (.cells (bs x).toArray 38 (0, 0)))) : o.wp Try.prog a w K Q := by
  subst hd; exact wp_bD hx y ho hy h
set_option maxHeartbeats 4000000 in
theorem rpath_nil (k : Nat) (vl : Value) (l : List (List UInt8)) (i : Int) (w : World) (hl : SlX w vl l) (h : l.length < 2) :
    Calls Try.prog 25 #[.int .i64 k, vl, .int .i64 i] w fun e w' => ∃ v, e = .returned v ∧ OwD w.heap.size w' v [] ∧ Below w.heap.size w w' := by
  obtain ⟨A, c, rfl, hc, hcm⟩ := hl.len
  have h2 : (l.length : Int) < 2 := by omega
  go_enter Try.func25, Try.ntmps25
  go_wp2_with fail
  go_ret
  exact ⟨_, rfl, OwD.nil _ _, Below.refl _ _⟩
set_option maxHeartbeats 8000000 in
theorem rpath_left (k : Nat) (hk : k ≤ 256) (A : Option Addr) (c : Nat) (l : List (List UInt8)) (i j : Nat) (ds : List (List UInt8)) (w : World) (hl : SlX w (.slice A l.length c) l) (h2 : 2 ≤ l.length) (hll : l.length ≤ 1048576) (hz : ∀ z ∈ l, z.length ≤ 1048576) (hj : kOf l.length = j) (hij : i < j) (hds : ds.length ≤ 1048576)
    (hup : ∀ w', Ext w w' → Calls Try.prog 25 #[.int .i64 k, .slice A j c, .int .i64 i] w' fun e w'' => ∃ v, e = .returned v ∧ OwD w'.heap.size w'' v ds ∧ Below w'.heap.size w' w'') :
    Calls Try.prog 25 #[.int .i64 k, .slice A l.length c, .int .i64 i] w fun e w' => ∃ v, e = .returned v ∧ OwD w.heap.size w' v (ds ++ [rootX k (l.drop j)]) ∧ Below w.heap.size w w' := by
  have hkl := kOf_lt (n := l.length) h2 (by omega)
  rw [hj] at hkl
  have hcl : l.length ≤ c := by obtain ⟨_, _, e, h, _⟩ := hl.len; cases e; exact h
  have hh := fun w' => rhalf_any l.length w' h2 hll
  rw [hj] at hh
  have hR0 := hl.slice j l.length (by omega) (Nat.le_refl _)
  rw [List.take_of_length_le (by simp)] at hR0
  have hro := fun w' (h : Below w.heap.size w w') => rroot_any k hk (.slice (slA A j c 1) (l.length - j) (c - j)) (l.drop j) w' (by rw [List.length_drop]; omega) (fun z h => hz z (List.mem_of_mem_drop h)) (hR0.below h)
  have hrl := rootX_length k (l.drop j)
  generalize rootX k (l.drop j) = rt at *
  have g0 : ¬ (l.length : Int) < 2 := by omega
  have g1 : (j : Int) ≤ c := by omega
  have g2 : (i : Int) < j := by omega
  have g3 : (j : Int) ≤ l.length := by omega
  replace hj : Hid _ := hj
  have hLX : ds.length + [rt].length ≤ 1099511627776 := by simp; omega
  clear hkl hcl hR0 hl
  go_enter Try.func25, Try.ntmps25
  go_wp2_with fail
  (with_reducible refine (hh _).mono ?_); rintro e w' ⟨rfl, rfl⟩
  go_wp2_with fail
  have hS : Below w.heap.size w w.drew := (Below.refl _ _).drew
  refine wp_region_S (fun w' => Below w.heap.size w w') (by kernel_rfl) ?_
  refine wpAnyS_take (i := 0) (v := ?_) hS (some 17) rfl rfl (by kernel_rfl) (by kernel_rfl) (by kernel_rfl) (fun _ _ _ h => h) ?_ ?_
  rotate_left 1
  · (refine Or.inl ⟨by rfl, ?_⟩; intro w' hw'; (try go_simp); (try rfl); done)
  try simp only [Act.put, List.setIfInBounds_toArray, List.set_cons_zero, List.set_cons_succ]
  refine wpAnyS_take (i := 1) (v := ?_) hS (some 18) rfl rfl (by kernel_rfl) (by kernel_rfl) (by kernel_rfl) (fun _ _ _ h => h) ?_ ?_
  rotate_left 1
  · (refine Or.inl ⟨by rfl, ?_⟩; intro w' hw'; (try go_simp); (try rfl); done)
  try simp only [Act.put, List.setIfInBounds_toArray, List.set_cons_zero, List.set_cons_succ]
  refine wpAnyS_take (i := 2) (v := ?_) hS (some 19) rfl rfl (by kernel_rfl) (by kernel_rfl) (by kernel_rfl) (fun _ _ _ h => h) ?_ ?_
  rotate_left 1
  · (refine Or.inl ⟨by rfl, ?_⟩; intro w' hw'; (try go_simp); (try rfl); done)
  try simp only [Act.put, List.setIfInBounds_toArray, List.set_cons_zero, List.set_cons_succ]
  refine wpAnyS_take (i := 3) (v := ?_) hS (some 20) rfl rfl (by kernel_rfl) (by kernel_rfl) (by kernel_rfl) (fun _ _ _ h => h) ?_ ?_
  rotate_left 1
  · (refine Or.inl ⟨by rfl, ?_⟩; intro w' hw'; (try go_simp); (try rfl); done)
  try simp only [Act.put, List.setIfInBounds_toArray, List.set_cons_zero, List.set_cons_succ]
  refine wpAnyS_take (i := 4) (v := ?_) hS (some 21) rfl rfl (by kernel_rfl) (by kernel_rfl) (by kernel_rfl) (fun _ _ _ h => h) ?_ ?_
  rotate_left 1
  · (refine Or.inl ⟨by rfl, ?_⟩; intro w' hw'; (try go_simp); (try rfl); done)
  try simp only [Act.put, List.setIfInBounds_toArray, List.set_cons_zero, List.set_cons_succ]
  refine wpAnyS_take (i := 6) (v := ?_) hS (some 23) rfl rfl (by kernel_rfl) (by kernel_rfl) (by kernel_rfl) (fun _ _ _ h => h) ?_ ?_
  rotate_left 1
  · (refine Or.inl ⟨by rfl, ?_⟩; intro w' hw'; (try go_simp); (try rfl); done)
  try simp only [Act.put, List.setIfInBounds_toArray, List.set_cons_zero, List.set_cons_succ]
  refine wpAnyS_take (i := 7) (v := ?_) hS (some 24) rfl rfl (by kernel_rfl) (by kernel_rfl) (by kernel_rfl) (fun _ _ _ h => h) ?_ ?_
  rotate_left 1
  · (refine Or.inl ⟨by rfl, ?_⟩; intro w' hw'; (try go_simp); (try rfl); done)
  try simp only [Act.put, List.setIfInBounds_toArray, List.set_cons_zero, List.set_cons_succ]
  refine wpAnyS_take (i := 8) (v := ?_) hS (some 25) rfl rfl (by kernel_rfl) (by kernel_rfl) (by kernel_rfl) (fun _ _ _ h => h) ?_ ?_
  rotate_left 1
  · (refine Or.inl ⟨by rfl, ?_⟩; intro w' hw'; (try go_simp); (try rfl); done)
  try simp only [Act.put, List.setIfInBounds_toArray, List.set_cons_zero, List.set_cons_succ]
  refine wpAnyS_take (i := 9) (v := ?_) hS (some 26) rfl rfl (by kernel_rfl) (by kernel_rfl) (by kernel_rfl) (fun _ _ _ h => h) ?_ ?_
  rotate_left 1
  · (refine Or.inl ⟨by rfl, ?_⟩; intro w' hw'; (try go_simp); (try rfl); done)
  try simp only [Act.put, List.setIfInBounds_toArray, List.set_cons_zero, List.set_cons_succ]
  refine wpAnyS_one (i := 5) rfl (by kernel_rfl) (by rfl) (fun K hK => ?_)
  go_simp
  have hu := hup _ hS
  (with_reducible refine hu.mono ?_); rintro e w5 ⟨v5, rfl, o5, b5⟩
  clear hu
  have hb := Below.trans hS (b5.mono hS.size)
  have o5 := o5.mono hS.size
  refine hK.out _ _ hb ?_
  replace hS := hb
  clear hK K hb
  try simp only [Act.put, List.setIfInBounds_toArray, List.set_cons_zero, List.set_cons_succ]
  refine wpAnyS_one (i := 10) rfl (by kernel_rfl) (by rfl) (fun K hK => ?_)
  go_simp
  (with_reducible refine (hro _ hS).mono ?_); rintro e w6 ⟨rfl, b6⟩
  have o6 := o5.below b6
  have hb := Below.trans hS (b6.mono hS.size)
  refine hK.out _ _ hb ?_
  replace hS := hb
  clear hK K hb
  try simp only [Act.put, List.setIfInBounds_toArray, List.set_cons_zero, List.set_cons_succ]
  refine wpAnyS_one (i := 11) rfl (by kernel_rfl) (by rfl) (fun K hK => ?_)
  refine wp_bD_at (some 28) hrl _ rfl rfl rfl ?_
  have e7 := ext_alloc w6 (.cells (bs rt).toArray 38 (0, 0))
  have o7 := o6.below e7
  have s7 := slD_one w6 rt 38 hrl
  have hb := Below.trans hS (e7.mono hS.size)
  have z7 := hb.size
  refine hK.out _ _ hb ?_
  replace hS := hb
  clear hK K hb
  try simp only [Act.put, List.setIfInBounds_toArray, List.set_cons_zero, List.set_cons_succ]
  refine wpAnyS_one (i := 12) rfl (by kernel_rfl) (by rfl) (fun K hK => ?_)
  refine wp_apD_at (some 29) (B := w.heap.size) _ _ rfl rfl rfl o7 rfl s7 (by simp) hLX z7 ?_
  intro v8 w8 h8 b8
  have hb := Below.trans hS b8
  refine hK.out _ _ hb ?_
  replace hS := hb
  clear hK K hb
  try simp only [Act.put, List.setIfInBounds_toArray, List.set_cons_zero, List.set_cons_succ]
  refine wpAnyS_take (i := 13) (v := ?_) hS (some 6) rfl rfl (by kernel_rfl) (by kernel_rfl) (by kernel_rfl) (fun _ _ _ h => h) ?_ ?_
  rotate_left 1
  · (refine Or.inl ⟨by rfl, ?_⟩; intro w' hw'; (try go_simp); (try rfl); done)
  try simp only [Act.put, List.setIfInBounds_toArray, List.set_cons_zero, List.set_cons_succ]
  refine wpAnyS_done (by kernel_rfl) ?_ _
  go_wp2_with fail
  go_ret
  exact ⟨_, rfl, h8, hS⟩
set_option maxHeartbeats 8000000 in
theorem rpath_right (k : Nat) (hk : k ≤ 256) (A : Option Addr) (c : Nat) (l : List (List UInt8)) (i j : Nat) (ds : List (List UInt8)) (w : World) (hl : SlX w (.slice A l.length c) l) (h2 : 2 ≤ l.length) (hll : l.length ≤ 1048576) (hz : ∀ z ∈ l, z.length ≤ 1048576) (hj : kOf l.length = j) (hij : j ≤ i) (hil : i < l.length) (hds : ds.length ≤ 1048576)
    (hup : ∀ w', Ext w w' → Calls Try.prog 25 #[.int .i64 k, .slice (slA A j c 1) (l.length - j) (c - j), .int .i64 ((i : Int) - j)] w' fun e w'' => ∃ v, e = .returned v ∧ OwD w'.heap.size w'' v ds ∧ Below w'.heap.size w' w'') :
    Calls Try.prog 25 #[.int .i64 k, .slice A l.length c, .int .i64 i] w fun e w' => ∃ v, e = .returned v ∧ OwD w.heap.size w' v (ds ++ [rootX k (l.take j)]) ∧ Below w.heap.size w w' := by
  have hkl := kOf_lt (n := l.length) h2 (by omega)
  rw [hj] at hkl
  have hcl : l.length ≤ c := by obtain ⟨_, _, e, h, _⟩ := hl.len; cases e; exact h
  have hh := fun w' => rhalf_any l.length w' h2 hll
  rw [hj] at hh
  have hR0 := hl.slice 0 j (by omega) (by omega)
  simp only [List.drop_zero, Nat.sub_zero, slA_zero] at hR0
  have hro := fun w' (h : Below w.heap.size w w') => rroot_any k hk (.slice A j c) (l.take j) w' (by rw [List.length_take]; omega) (fun z h => hz z (List.mem_of_mem_take h)) (hR0.below h)
  have hrl := rootX_length k (l.take j)
  generalize rootX k (l.take j) = rt at *
  have g0 : ¬ (l.length : Int) < 2 := by omega
  have g1 : (j : Int) ≤ c := by omega
  have g2 : ¬ (i : Int) < j := by omega
  have wij : IntKind.i64.wrap ((i : Int) - j) = (i : Int) - j := by rw [IntKind.wrap_i64]; omega
  have g3 : (j : Int) ≤ l.length := by omega
  replace hj : Hid _ := hj
  have hLX : ds.length + [rt].length ≤ 1099511627776 := by simp; omega
  clear hkl hcl hR0 hl
  go_enter Try.func25, Try.ntmps25
  go_wp2_with fail
  (with_reducible refine (hh _).mono ?_); rintro e w' ⟨rfl, rfl⟩
  go_wp2_with fail
  have hS : Below w.heap.size w w.drew := (Below.refl _ _).drew
  refine wp_region_S (fun w' => Below w.heap.size w w') (by kernel_rfl) ?_
  refine wpAnyS_take (i := 0) (v := ?_) hS (some 30) rfl rfl (by kernel_rfl) (by kernel_rfl) (by kernel_rfl) (fun _ _ _ h => h) ?_ ?_
  rotate_left 1
  · (refine Or.inl ⟨by rfl, ?_⟩; intro w' hw'; (try go_simp); (try rfl); done)
  try simp only [Act.put, List.setIfInBounds_toArray, List.set_cons_zero, List.set_cons_succ]
  refine wpAnyS_take (i := 1) (v := ?_) hS (some 31) rfl rfl (by kernel_rfl) (by kernel_rfl) (by kernel_rfl) (fun _ _ _ h => h) ?_ ?_
  rotate_left 1
  · (refine Or.inl ⟨by rfl, ?_⟩; intro w' hw'; (try go_simp); (try rfl); done)
  try simp only [Act.put, List.setIfInBounds_toArray, List.set_cons_zero, List.set_cons_succ]
  refine wpAnyS_take (i := 2) (v := ?_) hS (some 32) rfl rfl (by kernel_rfl) (by kernel_rfl) (by kernel_rfl) (fun _ _ _ h => h) ?_ ?_
  rotate_left 1
  · (refine Or.inl ⟨by rfl, ?_⟩; intro w' hw'; (try go_simp); (try rfl); done)
  try simp only [Act.put, List.setIfInBounds_toArray, List.set_cons_zero, List.set_cons_succ]
  refine wpAnyS_take (i := 3) (v := ?_) hS (some 33) rfl rfl (by kernel_rfl) (by kernel_rfl) (by kernel_rfl) (fun _ _ _ h => h) ?_ ?_
  rotate_left 1
  · (refine Or.inl ⟨by rfl, ?_⟩; intro w' hw'; (try go_simp); (try rfl); done)
  try simp only [Act.put, List.setIfInBounds_toArray, List.set_cons_zero, List.set_cons_succ]
  refine wpAnyS_take (i := 4) (v := ?_) hS (some 34) rfl rfl (by kernel_rfl) (by kernel_rfl) (by kernel_rfl) (fun _ _ _ h => h) ?_ ?_
  rotate_left 1
  · (refine Or.inl ⟨by rfl, ?_⟩; intro w' hw'; (try go_simp); (try rfl); done)
  try simp only [Act.put, List.setIfInBounds_toArray, List.set_cons_zero, List.set_cons_succ]
  refine wpAnyS_take (i := 5) (v := ?_) hS (some 35) rfl rfl (by kernel_rfl) (by kernel_rfl) (by kernel_rfl) (fun _ _ _ h => h) ?_ ?_
  rotate_left 1
  · (refine Or.inl ⟨by rfl, ?_⟩; intro w' hw'; (try go_simp); (try rfl); done)
  try simp only [Act.put, List.setIfInBounds_toArray, List.set_cons_zero, List.set_cons_succ]
  refine wpAnyS_take (i := 6) (v := ?_) hS (some 36) rfl rfl (by kernel_rfl) (by kernel_rfl) (by kernel_rfl) (fun _ _ _ h => h) ?_ ?_
  rotate_left 1
  · (refine Or.inl ⟨by rfl, ?_⟩; intro w' hw'; (try go_simp); (try rfl); done)
  try simp only [Act.put, List.setIfInBounds_toArray, List.set_cons_zero, List.set_cons_succ]
  refine wpAnyS_take (i := 8) (v := ?_) hS (some 38) rfl rfl (by kernel_rfl) (by kernel_rfl) (by kernel_rfl) (fun _ _ _ h => h) ?_ ?_
  rotate_left 1
  · (refine Or.inl ⟨by rfl, ?_⟩; intro w' hw'; (try go_simp); (try rfl); done)
  try simp only [Act.put, List.setIfInBounds_toArray, List.set_cons_zero, List.set_cons_succ]
  refine wpAnyS_take (i := 9) (v := ?_) hS (some 39) rfl rfl (by kernel_rfl) (by kernel_rfl) (by kernel_rfl) (fun _ _ _ h => h) ?_ ?_
  rotate_left 1
  · (refine Or.inl ⟨by rfl, ?_⟩; intro w' hw'; (try go_simp); (try rfl); done)
  try simp only [Act.put, List.setIfInBounds_toArray, List.set_cons_zero, List.set_cons_succ]
  refine wpAnyS_take (i := 10) (v := ?_) hS (some 40) rfl rfl (by kernel_rfl) (by kernel_rfl) (by kernel_rfl) (fun _ _ _ h => h) ?_ ?_
  rotate_left 1
  · (refine Or.inl ⟨by rfl, ?_⟩; intro w' hw'; (try go_simp); (try rfl); done)
  try simp only [Act.put, List.setIfInBounds_toArray, List.set_cons_zero, List.set_cons_succ]
  refine wpAnyS_take (i := 11) (v := ?_) hS (some 41) rfl rfl (by kernel_rfl) (by kernel_rfl) (by kernel_rfl) (fun _ _ _ h => h) ?_ ?_
  rotate_left 1
  · (refine Or.inl ⟨by rfl, ?_⟩; intro w' hw'; (try go_simp); (try rfl); done)
  try simp only [Act.put, List.setIfInBounds_toArray, List.set_cons_zero, List.set_cons_succ]
  refine wpAnyS_one (i := 7) rfl (by kernel_rfl) (by rfl) (fun K hK => ?_)
  go_simp
  have hu := hup _ hS
  (with_reducible refine hu.mono ?_); rintro e w5 ⟨v5, rfl, o5, b5⟩
  clear hu
  have hb := Below.trans hS (b5.mono hS.size)
  have o5 := o5.mono hS.size
  refine hK.out _ _ hb ?_
  replace hS := hb
  clear hK K hb
  try simp only [Act.put, List.setIfInBounds_toArray, List.set_cons_zero, List.set_cons_succ]
  refine wpAnyS_one (i := 12) rfl (by kernel_rfl) (by rfl) (fun K hK => ?_)
  go_simp
  (with_reducible refine (hro _ hS).mono ?_); rintro e w6 ⟨rfl, b6⟩
  have o6 := o5.below b6
  have hb := Below.trans hS (b6.mono hS.size)
  refine hK.out _ _ hb ?_
  replace hS := hb
  clear hK K hb
  try simp only [Act.put, List.setIfInBounds_toArray, List.set_cons_zero, List.set_cons_succ]
  refine wpAnyS_one (i := 13) rfl (by kernel_rfl) (by rfl) (fun K hK => ?_)
  refine wp_bD_at (some 43) hrl _ rfl rfl rfl ?_
  have e7 := ext_alloc w6 (.cells (bs rt).toArray 38 (0, 0))
  have o7 := o6.below e7
  have s7 := slD_one w6 rt 38 hrl
  have hb := Below.trans hS (e7.mono hS.size)
  have z7 := hb.size
  refine hK.out _ _ hb ?_
  replace hS := hb
  clear hK K hb
  try simp only [Act.put, List.setIfInBounds_toArray, List.set_cons_zero, List.set_cons_succ]
  refine wpAnyS_one (i := 14) rfl (by kernel_rfl) (by rfl) (fun K hK => ?_)
  refine wp_apD_at (some 44) (B := w.heap.size) _ _ rfl rfl rfl o7 rfl s7 (by simp) hLX z7 ?_
  intro v8 w8 h8 b8
  have hb := Below.trans hS b8
  refine hK.out _ _ hb ?_
  replace hS := hb
  clear hK K hb
  try simp only [Act.put, List.setIfInBounds_toArray, List.set_cons_zero, List.set_cons_succ]
  refine wpAnyS_take (i := 15) (v := ?_) hS (some 6) rfl rfl (by kernel_rfl) (by kernel_rfl) (by kernel_rfl) (fun _ _ _ h => h) ?_ ?_
  rotate_left 1
  · (refine Or.inl ⟨by rfl, ?_⟩; intro w' hw'; (try go_simp); (try rfl); done)
  try simp only [Act.put, List.setIfInBounds_toArray, List.set_cons_zero, List.set_cons_succ]
  refine wpAnyS_done (by kernel_rfl) ?_ _
  go_wp2_with fail
  go_ret
  exact ⟨_, rfl, h8, hS⟩
theorem rpath_any (k : Nat) (hk : k ≤ 256) : ∀ (n : Nat) (vl : Value) (l : List (List UInt8)) (i : Nat) (w : World), l.length ≤ n → n ≤ 1048576 → i < l.length → (∀ z ∈ l, z.length ≤ 1048576) → SlX w vl l →
      Calls Try.prog 25 #[.int .i64 k, vl, .int .i64 i] w fun e w' => ∃ v, e = .returned v ∧ OwD w.heap.size w' v (pathN k n l i) ∧ Below w.heap.size w w' := by
  intro n
  induction n with
  | zero => intro vl l i w h1 _ h2; omega
  | succ n ih =>
    intro vl l i w hln hn hi hz hl
    by_cases h1 : l.length < 2
    · have e : pathN k (n + 1) l i = [] := by unfold pathN; rw [if_pos h1]
      rw [e]
      exact rpath_nil k vl l i w hl h1
    · have hkl := kOf_lt (n := l.length) (by omega) (by omega)
      obtain ⟨A, c, rfl, hc, hcm⟩ := hl.len
      by_cases h2 : i < kOf l.length
      · have e : pathN k (n + 1) l i = pathN k n (l.take (kOf l.length)) i ++ [rootX k (l.drop (kOf l.length))] := by
          conv => lhs; unfold pathN
          rw [if_neg h1, if_pos h2]
        rw [e]
        have hL0 := hl.slice 0 (kOf l.length) (by omega) (by omega)
        simp only [List.drop_zero, Nat.sub_zero, slA_zero] at hL0
        exact rpath_left k hk A c l i (kOf l.length) _ w hl (by omega) (by omega) hz rfl h2 (by have := pathN_length k n (l.take (kOf l.length)) i; omega)
          (fun w' hx => ih _ (l.take (kOf l.length)) i w' (by rw [List.length_take]; omega) (by omega) (by rw [List.length_take]; omega) (fun z h => hz z (List.mem_of_mem_take h)) (hL0.below hx))
      · have e : pathN k (n + 1) l i = pathN k n (l.drop (kOf l.length)) (i - kOf l.length) ++ [rootX k (l.take (kOf l.length))] := by
          conv => lhs; unfold pathN
          rw [if_neg h1, if_neg h2]
        rw [e]
        have hR0 := hl.slice (kOf l.length) l.length (by omega) (Nat.le_refl _)
        rw [List.take_of_length_le (by simp)] at hR0
        refine rpath_right k hk A c l i (kOf l.length) _ w hl (by omega) (by omega) hz rfl (by omega) hi (by have := pathN_length k n (l.drop (kOf l.length)) (i - kOf l.length); omega) ?_
        intro w' hx
        have := ih _ (l.drop (kOf l.length)) (i - kOf l.length) w' (by rw [List.length_drop]; omega) (by omega) (by rw [List.length_drop]; omega) (fun z h => hz z (List.mem_of_mem_drop h)) (hR0.below hx)
        rw [show ((i - kOf l.length : Nat) : Int) = (i : Int) - (kOf l.length : Nat) by omega] at this
        exact this
set_option maxHeartbeats 4000000 in
theorem rproof_full (k : Nat) (vl : Value) (l : List (List UInt8)) (m : Nat) (w : World) (hl : SlX w vl l) (hm : m = l.length) :
    Calls Try.prog 26 #[.int .i64 k, vl, .int .i64 m, .bool true] w fun e w' => ∃ v, e = .returned v ∧ OwD w.heap.size w' v [] ∧ Below w.heap.size w w' := by
  subst hm
  obtain ⟨A, c, rfl, hc, hcm⟩ := hl.len
  go_enter Try.func26, Try.ntmps26
  go_wp2_with fail
  go_ret
  exact ⟨_, rfl, OwD.nil _ _, Below.refl _ _⟩
theorem owD_one (w : World) (x : List UInt8) (B : Nat) (hB : B ≤ w.heap.size) (hx : x.length = 32) : OwD B (w.alloc (.cells (bs x).toArray 38 (0, 0))) (.slice (some ⟨w.heap.size, 0, none⟩) 1 1) [x] := by
  refine ⟨?_, fun d hd => by rw [List.mem_singleton.1 hd]; exact hx⟩
  have h := World.ownsRow_lit (base := B) (e := 38) (size := 32) w (bs x).toArray 1 hB (by decide) (by rw [List.size_toArray, bs_length, hx])
  simpa using h
set_option maxHeartbeats 4000000 in
theorem rproof_part (k : Nat) (hk : k ≤ 256) (vl : Value) (l : List (List UInt8)) (m : Nat) (w : World) (hl : SlX w vl l) (hm : m = l.length) (hll : l.length ≤ 1048576) (hz : ∀ z ∈ l, z.length ≤ 1048576) :
    Calls Try.prog 26 #[.int .i64 k, vl, .int .i64 m, .bool false] w fun e w' => ∃ v, e = .returned v ∧ OwD w.heap.size w' v [rootX k l] ∧ Below w.heap.size w w' := by
  subst hm
  obtain ⟨A, c, rfl, hc, hcm⟩ := hl.len
  have hro := rroot_any k hk (.slice A l.length c) l w hll hz hl
  have hrl := rootX_length k l
  generalize rootX k l = rt at *
  go_enter Try.func26, Try.ntmps26
  go_wp2_with fail
  refine hro.mono ?_; rintro e w2 ⟨rfl, b2⟩
  have o2 := owD_one w2 rt w.heap.size b2.size hrl
  have b3 := Ext.trans b2 (ext_alloc w2 (.cells (bs rt).toArray 38 (0, 0)))
  go_wp2_with ((with_reducible refine at_bs ?_); refine wpl_bD rfl hrl _ rfl rfl ?_)
  go_ret
  exact ⟨_, rfl, o2, b3⟩
set_option maxHeartbeats 8000000 in
theorem rproof_left (k : Nat) (hk : k ≤ 256) (A : Option Addr) (c : Nat) (l : List (List UInt8)) (m j : Nat) (mark : Bool) (ds : List (List UInt8)) (w : World) (hl : SlX w (.slice A l.length c) l) (h2 : 2 ≤ l.length) (hll : l.length ≤ 1048576) (hz : ∀ z ∈ l, z.length ≤ 1048576) (hj : kOf l.length = j) (hml : m ≠ l.length) (hmj : m ≤ j) (hds : ds.length ≤ 1048576)
    (hup : ∀ w', Ext w w' → Calls Try.prog 26 #[.int .i64 k, .slice A j c, .int .i64 m, .bool mark] w' fun e w'' => ∃ v, e = .returned v ∧ OwD w'.heap.size w'' v ds ∧ Below w'.heap.size w' w'') :
    Calls Try.prog 26 #[.int .i64 k, .slice A l.length c, .int .i64 m, .bool mark] w fun e w' => ∃ v, e = .returned v ∧ OwD w.heap.size w' v (ds ++ [rootX k (l.drop j)]) ∧ Below w.heap.size w w' := by
  have hkl := kOf_lt (n := l.length) h2 (by omega)
  rw [hj] at hkl
  have hcl : l.length ≤ c := by obtain ⟨_, _, e, h, _⟩ := hl.len; cases e; exact h
  have hh := fun w' => rhalf_any l.length w' h2 hll
  rw [hj] at hh
  have hR0 := hl.slice j l.length (by omega) (Nat.le_refl _)
  rw [List.take_of_length_le (by simp)] at hR0
  have hro := fun w' (h : Below w.heap.size w w') => rroot_any k hk (.slice (slA A j c 1) (l.length - j) (c - j)) (l.drop j) w' (by rw [List.length_drop]; omega) (fun z h => hz z (List.mem_of_mem_drop h)) (hR0.below h)
  have hrl := rootX_length k (l.drop j)
  generalize rootX k (l.drop j) = rt at *
  have g0 : ((m : Int) == l.length) = false := by rw [beq_eq_false_iff_ne]; omega
  have g1 : (j : Int) ≤ c := by omega
  have g2 : (m : Int) ≤ j := by omega
  have g3 : (j : Int) ≤ l.length := by omega
  replace hj : Hid _ := hj
  have hLX : ds.length + [rt].length ≤ 1099511627776 := by simp; omega
  clear hkl hcl hR0 hl
  go_enter Try.func26, Try.ntmps26
  go_wp2_with fail
  (with_reducible refine (hh _).mono ?_); rintro e w' ⟨rfl, rfl⟩
  go_wp2_with fail
  have hS : Below w.heap.size w w.drew := (Below.refl _ _).drew
  refine wp_region_S (fun w' => Below w.heap.size w w') (by kernel_rfl) ?_
  refine wpAnyS_take (i := 0) (v := ?_) hS (some 31) rfl rfl (by kernel_rfl) (by kernel_rfl) (by kernel_rfl) (fun _ _ _ h => h) ?_ ?_
  rotate_left 1
  · (refine Or.inl ⟨by rfl, ?_⟩; intro w' hw'; (try go_simp); (try rfl); done)
  try simp only [Act.put, List.setIfInBounds_toArray, List.set_cons_zero, List.set_cons_succ]
  refine wpAnyS_take (i := 1) (v := ?_) hS (some 32) rfl rfl (by kernel_rfl) (by kernel_rfl) (by kernel_rfl) (fun _ _ _ h => h) ?_ ?_
  rotate_left 1
  · (refine Or.inl ⟨by rfl, ?_⟩; intro w' hw'; (try go_simp); (try rfl); done)
  try simp only [Act.put, List.setIfInBounds_toArray, List.set_cons_zero, List.set_cons_succ]
  refine wpAnyS_take (i := 2) (v := ?_) hS (some 33) rfl rfl (by kernel_rfl) (by kernel_rfl) (by kernel_rfl) (fun _ _ _ h => h) ?_ ?_
  rotate_left 1
  · (refine Or.inl ⟨by rfl, ?_⟩; intro w' hw'; (try go_simp); (try rfl); done)
  try simp only [Act.put, List.setIfInBounds_toArray, List.set_cons_zero, List.set_cons_succ]
  refine wpAnyS_take (i := 3) (v := ?_) hS (some 34) rfl rfl (by kernel_rfl) (by kernel_rfl) (by kernel_rfl) (fun _ _ _ h => h) ?_ ?_
  rotate_left 1
  · (refine Or.inl ⟨by rfl, ?_⟩; intro w' hw'; (try go_simp); (try rfl); done)
  try simp only [Act.put, List.setIfInBounds_toArray, List.set_cons_zero, List.set_cons_succ]
  refine wpAnyS_take (i := 4) (v := ?_) hS (some 35) rfl rfl (by kernel_rfl) (by kernel_rfl) (by kernel_rfl) (fun _ _ _ h => h) ?_ ?_
  rotate_left 1
  · (refine Or.inl ⟨by rfl, ?_⟩; intro w' hw'; (try go_simp); (try rfl); done)
  try simp only [Act.put, List.setIfInBounds_toArray, List.set_cons_zero, List.set_cons_succ]
  refine wpAnyS_take (i := 5) (v := ?_) hS (some 36) rfl rfl (by kernel_rfl) (by kernel_rfl) (by kernel_rfl) (fun _ _ _ h => h) ?_ ?_
  rotate_left 1
  · (refine Or.inl ⟨by rfl, ?_⟩; intro w' hw'; (try go_simp); (try rfl); done)
  try simp only [Act.put, List.setIfInBounds_toArray, List.set_cons_zero, List.set_cons_succ]
  refine wpAnyS_take (i := 7) (v := ?_) hS (some 38) rfl rfl (by kernel_rfl) (by kernel_rfl) (by kernel_rfl) (fun _ _ _ h => h) ?_ ?_
  rotate_left 1
  · (refine Or.inl ⟨by rfl, ?_⟩; intro w' hw'; (try go_simp); (try rfl); done)
  try simp only [Act.put, List.setIfInBounds_toArray, List.set_cons_zero, List.set_cons_succ]
  refine wpAnyS_take (i := 8) (v := ?_) hS (some 39) rfl rfl (by kernel_rfl) (by kernel_rfl) (by kernel_rfl) (fun _ _ _ h => h) ?_ ?_
  rotate_left 1
  · (refine Or.inl ⟨by rfl, ?_⟩; intro w' hw'; (try go_simp); (try rfl); done)
  try simp only [Act.put, List.setIfInBounds_toArray, List.set_cons_zero, List.set_cons_succ]
  refine wpAnyS_take (i := 9) (v := ?_) hS (some 40) rfl rfl (by kernel_rfl) (by kernel_rfl) (by kernel_rfl) (fun _ _ _ h => h) ?_ ?_
  rotate_left 1
  · (refine Or.inl ⟨by rfl, ?_⟩; intro w' hw'; (try go_simp); (try rfl); done)
  try simp only [Act.put, List.setIfInBounds_toArray, List.set_cons_zero, List.set_cons_succ]
  refine wpAnyS_take (i := 10) (v := ?_) hS (some 41) rfl rfl (by kernel_rfl) (by kernel_rfl) (by kernel_rfl) (fun _ _ _ h => h) ?_ ?_
  rotate_left 1
  · (refine Or.inl ⟨by rfl, ?_⟩; intro w' hw'; (try go_simp); (try rfl); done)
  try simp only [Act.put, List.setIfInBounds_toArray, List.set_cons_zero, List.set_cons_succ]
  refine wpAnyS_one (i := 6) rfl (by kernel_rfl) (by rfl) (fun K hK => ?_)
  go_simp
  have hu := hup _ hS
  (with_reducible refine hu.mono ?_); rintro e w5 ⟨v5, rfl, o5, b5⟩
  clear hu
  have hb := Below.trans hS (b5.mono hS.size)
  have o5 := o5.mono hS.size
  refine hK.out _ _ hb ?_
  replace hS := hb
  clear hK K hb
  try simp only [Act.put, List.setIfInBounds_toArray, List.set_cons_zero, List.set_cons_succ]
  refine wpAnyS_one (i := 11) rfl (by kernel_rfl) (by rfl) (fun K hK => ?_)
  go_simp
  (with_reducible refine (hro _ hS).mono ?_); rintro e w6 ⟨rfl, b6⟩
  have o6 := o5.below b6
  have hb := Below.trans hS (b6.mono hS.size)
  refine hK.out _ _ hb ?_
  replace hS := hb
  clear hK K hb
  try simp only [Act.put, List.setIfInBounds_toArray, List.set_cons_zero, List.set_cons_succ]
  refine wpAnyS_one (i := 12) rfl (by kernel_rfl) (by rfl) (fun K hK => ?_)
  refine wp_bD_at (some 43) hrl _ rfl rfl rfl ?_
  have e7 := ext_alloc w6 (.cells (bs rt).toArray 38 (0, 0))
  have o7 := o6.below e7
  have s7 := slD_one w6 rt 38 hrl
  have hb := Below.trans hS (e7.mono hS.size)
  have z7 := hb.size
  refine hK.out _ _ hb ?_
  replace hS := hb
  clear hK K hb
  try simp only [Act.put, List.setIfInBounds_toArray, List.set_cons_zero, List.set_cons_succ]
  refine wpAnyS_one (i := 13) rfl (by kernel_rfl) (by rfl) (fun K hK => ?_)
  refine wp_apD_at (some 44) (B := w.heap.size) _ _ rfl rfl rfl o7 rfl s7 (by simp) hLX z7 ?_
  intro v8 w8 h8 b8
  have hb := Below.trans hS b8
  refine hK.out _ _ hb ?_
  replace hS := hb
  clear hK K hb
  try simp only [Act.put, List.setIfInBounds_toArray, List.set_cons_zero, List.set_cons_succ]
  refine wpAnyS_take (i := 14) (v := ?_) hS (some 8) rfl rfl (by kernel_rfl) (by kernel_rfl) (by kernel_rfl) (fun _ _ _ h => h) ?_ ?_
  rotate_left 1
  · (refine Or.inl ⟨by rfl, ?_⟩; intro w' hw'; (try go_simp); (try rfl); done)
  try simp only [Act.put, List.setIfInBounds_toArray, List.set_cons_zero, List.set_cons_succ]
  refine wpAnyS_done (by kernel_rfl) ?_ _
  go_wp2_with fail
  go_ret
  exact ⟨_, rfl, h8, hS⟩
set_option maxHeartbeats 8000000 in
theorem rproof_right (k : Nat) (hk : k ≤ 256) (A : Option Addr) (c : Nat) (l : List (List UInt8)) (m j : Nat) (mark : Bool) (ds : List (List UInt8)) (w : World) (hl : SlX w (.slice A l.length c) l) (h2 : 2 ≤ l.length) (hll : l.length ≤ 1048576) (hz : ∀ z ∈ l, z.length ≤ 1048576) (hj : kOf l.length = j) (hml : m ≠ l.length) (hmj : j < m) (hm2 : m ≤ l.length) (hds : ds.length ≤ 1048576)
    (hup : ∀ w', Ext w w' → Calls Try.prog 26 #[.int .i64 k, .slice (slA A j c 1) (l.length - j) (c - j), .int .i64 ((m : Int) - j), .bool false] w' fun e w'' => ∃ v, e = .returned v ∧ OwD w'.heap.size w'' v ds ∧ Below w'.heap.size w' w'') :
    Calls Try.prog 26 #[.int .i64 k, .slice A l.length c, .int .i64 m, .bool mark] w fun e w' => ∃ v, e = .returned v ∧ OwD w.heap.size w' v (ds ++ [rootX k (l.take j)]) ∧ Below w.heap.size w w' := by
  have hkl := kOf_lt (n := l.length) h2 (by omega)
  rw [hj] at hkl
  have hcl : l.length ≤ c := by obtain ⟨_, _, e, h, _⟩ := hl.len; cases e; exact h
  have hh := fun w' => rhalf_any l.length w' h2 hll
  rw [hj] at hh
  have hR0 := hl.slice 0 j (by omega) (by omega)
  simp only [List.drop_zero, Nat.sub_zero, slA_zero] at hR0
  have hro := fun w' (h : Below w.heap.size w w') => rroot_any k hk (.slice A j c) (l.take j) w' (by rw [List.length_take]; omega) (fun z h => hz z (List.mem_of_mem_take h)) (hR0.below h)
  have hrl := rootX_length k (l.take j)
  generalize rootX k (l.take j) = rt at *
  have g0 : ((m : Int) == l.length) = false := by rw [beq_eq_false_iff_ne]; omega
  have g1 : (j : Int) ≤ c := by omega
  have g2 : ¬ (m : Int) ≤ j := by omega
  have wij : IntKind.i64.wrap ((m : Int) - j) = (m : Int) - j := by rw [IntKind.wrap_i64]; omega
  have g3 : (j : Int) ≤ l.length := by omega
  replace hj : Hid _ := hj
  have hLX : ds.length + [rt].length ≤ 1099511627776 := by simp; omega
  clear hkl hcl hR0 hl
  go_enter Try.func26, Try.ntmps26
  go_wp2_with fail
  (with_reducible refine (hh _).mono ?_); rintro e w' ⟨rfl, rfl⟩
  go_wp2_with fail
  have hS : Below w.heap.size w w.drew := (Below.refl _ _).drew
  refine wp_region_S (fun w' => Below w.heap.size w w') (by kernel_rfl) ?_
  refine wpAnyS_take (i := 0) (v := ?_) hS (some 45) rfl rfl (by kernel_rfl) (by kernel_rfl) (by kernel_rfl) (fun _ _ _ h => h) ?_ ?_
  rotate_left 1
  · (refine Or.inl ⟨by rfl, ?_⟩; intro w' hw'; (try go_simp); (try rfl); done)
  try simp only [Act.put, List.setIfInBounds_toArray, List.set_cons_zero, List.set_cons_succ]
  refine wpAnyS_take (i := 1) (v := ?_) hS (some 46) rfl rfl (by kernel_rfl) (by kernel_rfl) (by kernel_rfl) (fun _ _ _ h => h) ?_ ?_
  rotate_left 1
  · (refine Or.inl ⟨by rfl, ?_⟩; intro w' hw'; (try go_simp); (try rfl); done)
  try simp only [Act.put, List.setIfInBounds_toArray, List.set_cons_zero, List.set_cons_succ]
  refine wpAnyS_take (i := 2) (v := ?_) hS (some 47) rfl rfl (by kernel_rfl) (by kernel_rfl) (by kernel_rfl) (fun _ _ _ h => h) ?_ ?_
  rotate_left 1
  · (refine Or.inl ⟨by rfl, ?_⟩; intro w' hw'; (try go_simp); (try rfl); done)
  try simp only [Act.put, List.setIfInBounds_toArray, List.set_cons_zero, List.set_cons_succ]
  refine wpAnyS_take (i := 3) (v := ?_) hS (some 48) rfl rfl (by kernel_rfl) (by kernel_rfl) (by kernel_rfl) (fun _ _ _ h => h) ?_ ?_
  rotate_left 1
  · (refine Or.inl ⟨by rfl, ?_⟩; intro w' hw'; (try go_simp); (try rfl); done)
  try simp only [Act.put, List.setIfInBounds_toArray, List.set_cons_zero, List.set_cons_succ]
  refine wpAnyS_take (i := 4) (v := ?_) hS (some 49) rfl rfl (by kernel_rfl) (by kernel_rfl) (by kernel_rfl) (fun _ _ _ h => h) ?_ ?_
  rotate_left 1
  · (refine Or.inl ⟨by rfl, ?_⟩; intro w' hw'; (try go_simp); (try rfl); done)
  try simp only [Act.put, List.setIfInBounds_toArray, List.set_cons_zero, List.set_cons_succ]
  refine wpAnyS_take (i := 5) (v := ?_) hS (some 50) rfl rfl (by kernel_rfl) (by kernel_rfl) (by kernel_rfl) (fun _ _ _ h => h) ?_ ?_
  rotate_left 1
  · (refine Or.inl ⟨by rfl, ?_⟩; intro w' hw'; (try go_simp); (try rfl); done)
  try simp only [Act.put, List.setIfInBounds_toArray, List.set_cons_zero, List.set_cons_succ]
  refine wpAnyS_take (i := 6) (v := ?_) hS (some 51) rfl rfl (by kernel_rfl) (by kernel_rfl) (by kernel_rfl) (fun _ _ _ h => h) ?_ ?_
  rotate_left 1
  · (refine Or.inl ⟨by rfl, ?_⟩; intro w' hw'; (try go_simp); (try rfl); done)
  try simp only [Act.put, List.setIfInBounds_toArray, List.set_cons_zero, List.set_cons_succ]
  refine wpAnyS_take (i := 8) (v := ?_) hS (some 53) rfl rfl (by kernel_rfl) (by kernel_rfl) (by kernel_rfl) (fun _ _ _ h => h) ?_ ?_
  rotate_left 1
  · (refine Or.inl ⟨by rfl, ?_⟩; intro w' hw'; (try go_simp); (try rfl); done)
  try simp only [Act.put, List.setIfInBounds_toArray, List.set_cons_zero, List.set_cons_succ]
  refine wpAnyS_take (i := 9) (v := ?_) hS (some 54) rfl rfl (by kernel_rfl) (by kernel_rfl) (by kernel_rfl) (fun _ _ _ h => h) ?_ ?_
  rotate_left 1
  · (refine Or.inl ⟨by rfl, ?_⟩; intro w' hw'; (try go_simp); (try rfl); done)
  try simp only [Act.put, List.setIfInBounds_toArray, List.set_cons_zero, List.set_cons_succ]
  refine wpAnyS_take (i := 10) (v := ?_) hS (some 55) rfl rfl (by kernel_rfl) (by kernel_rfl) (by kernel_rfl) (fun _ _ _ h => h) ?_ ?_
  rotate_left 1
  · (refine Or.inl ⟨by rfl, ?_⟩; intro w' hw'; (try go_simp); (try rfl); done)
  try simp only [Act.put, List.setIfInBounds_toArray, List.set_cons_zero, List.set_cons_succ]
  refine wpAnyS_take (i := 11) (v := ?_) hS (some 56) rfl rfl (by kernel_rfl) (by kernel_rfl) (by kernel_rfl) (fun _ _ _ h => h) ?_ ?_
  rotate_left 1
  · (refine Or.inl ⟨by rfl, ?_⟩; intro w' hw'; (try go_simp); (try rfl); done)
  try simp only [Act.put, List.setIfInBounds_toArray, List.set_cons_zero, List.set_cons_succ]
  refine wpAnyS_one (i := 7) rfl (by kernel_rfl) (by rfl) (fun K hK => ?_)
  go_simp
  have hu := hup _ hS
  (with_reducible refine hu.mono ?_); rintro e w5 ⟨v5, rfl, o5, b5⟩
  clear hu
  have hb := Below.trans hS (b5.mono hS.size)
  have o5 := o5.mono hS.size
  refine hK.out _ _ hb ?_
  replace hS := hb
  clear hK K hb
  try simp only [Act.put, List.setIfInBounds_toArray, List.set_cons_zero, List.set_cons_succ]
  refine wpAnyS_one (i := 12) rfl (by kernel_rfl) (by rfl) (fun K hK => ?_)
  go_simp
  (with_reducible refine (hro _ hS).mono ?_); rintro e w6 ⟨rfl, b6⟩
  have o6 := o5.below b6
  have hb := Below.trans hS (b6.mono hS.size)
  refine hK.out _ _ hb ?_
  replace hS := hb
  clear hK K hb
  try simp only [Act.put, List.setIfInBounds_toArray, List.set_cons_zero, List.set_cons_succ]
  refine wpAnyS_one (i := 13) rfl (by kernel_rfl) (by rfl) (fun K hK => ?_)
  refine wp_bD_at (some 58) hrl _ rfl rfl rfl ?_
  have e7 := ext_alloc w6 (.cells (bs rt).toArray 38 (0, 0))
  have o7 := o6.below e7
  have s7 := slD_one w6 rt 38 hrl
  have hb := Below.trans hS (e7.mono hS.size)
  have z7 := hb.size
  refine hK.out _ _ hb ?_
  replace hS := hb
  clear hK K hb
  try simp only [Act.put, List.setIfInBounds_toArray, List.set_cons_zero, List.set_cons_succ]
  refine wpAnyS_one (i := 14) rfl (by kernel_rfl) (by rfl) (fun K hK => ?_)
  refine wp_apD_at (some 59) (B := w.heap.size) _ _ rfl rfl rfl o7 rfl s7 (by simp) hLX z7 ?_
  intro v8 w8 h8 b8
  have hb := Below.trans hS b8
  refine hK.out _ _ hb ?_
  replace hS := hb
  clear hK K hb
  try simp only [Act.put, List.setIfInBounds_toArray, List.set_cons_zero, List.set_cons_succ]
  refine wpAnyS_take (i := 15) (v := ?_) hS (some 8) rfl rfl (by kernel_rfl) (by kernel_rfl) (by kernel_rfl) (fun _ _ _ h => h) ?_ ?_
  rotate_left 1
  · (refine Or.inl ⟨by rfl, ?_⟩; intro w' hw'; (try go_simp); (try rfl); done)
  try simp only [Act.put, List.setIfInBounds_toArray, List.set_cons_zero, List.set_cons_succ]
  refine wpAnyS_done (by kernel_rfl) ?_ _
  go_wp2_with fail
  go_ret
  exact ⟨_, rfl, h8, hS⟩
theorem rproof_any (k : Nat) (hk : k ≤ 256) : ∀ (n : Nat) (vl : Value) (l : List (List UInt8)) (m : Nat) (mark : Bool) (w : World), l.length ≤ n → n ≤ 1048576 → 1 ≤ m → m ≤ l.length → (∀ z ∈ l, z.length ≤ 1048576) → SlX w vl l →
      Calls Try.prog 26 #[.int .i64 k, vl, .int .i64 m, .bool mark] w fun e w' => ∃ v, e = .returned v ∧ OwD w.heap.size w' v (proofN k n l m mark) ∧ Below w.heap.size w w' := by
  intro n
  induction n with
  | zero => intro vl l m mark w h1 _ h2 h3; omega
  | succ n ih =>
    intro vl l m mark w hln hn hm1 hm2 hz hl
    by_cases h1 : m = l.length ∧ mark = true
    · have e : proofN k (n + 1) l m mark = [] := by unfold proofN; rw [if_pos h1]
      rw [e]
      obtain ⟨h1, rfl⟩ := h1
      exact rproof_full k vl l m w hl h1
    · by_cases h3 : m = l.length
      · have e : proofN k (n + 1) l m mark = [rootX k l] := by unfold proofN; rw [if_neg h1, if_pos h3]
        rw [e]
        have hmk : mark = false := by
          cases mark with
          | false => rfl
          | true => exact absurd ⟨h3, rfl⟩ h1
        subst hmk
        exact rproof_part k hk vl l m w hl h3 (by omega) hz
      · have hkl := kOf_lt (n := l.length) (by omega) (by omega)
        obtain ⟨A, c, rfl, hc, hcm⟩ := hl.len
        by_cases h2 : m ≤ kOf l.length
        · have e : proofN k (n + 1) l m mark = proofN k n (l.take (kOf l.length)) m mark ++ [rootX k (l.drop (kOf l.length))] := by
            conv => lhs; unfold proofN
            rw [if_neg h1, if_neg h3, if_pos h2]
          rw [e]
          have hL0 := hl.slice 0 (kOf l.length) (by omega) (by omega)
          simp only [List.drop_zero, Nat.sub_zero, slA_zero] at hL0
          exact rproof_left k hk A c l m (kOf l.length) mark _ w hl (by omega) (by omega) hz rfl h3 h2 (by have := proofN_length k n (l.take (kOf l.length)) m mark; omega)
            (fun w' hx => ih _ (l.take (kOf l.length)) m mark w' (by rw [List.length_take]; omega) (by omega) hm1 (by rw [List.length_take]; omega) (fun z h => hz z (List.mem_of_mem_take h)) (hL0.below hx))
        · have e : proofN k (n + 1) l m mark = proofN k n (l.drop (kOf l.length)) (m - kOf l.length) false ++ [rootX k (l.take (kOf l.length))] := by
            conv => lhs; unfold proofN
            rw [if_neg h1, if_neg h3, if_neg h2]
          rw [e]
          have hR0 := hl.slice (kOf l.length) l.length (by omega) (Nat.le_refl _)
          rw [List.take_of_length_le (by simp)] at hR0
          refine rproof_right k hk A c l m (kOf l.length) mark _ w hl (by omega) (by omega) hz rfl h3 (by omega) hm2 (by have := proofN_length k n (l.drop (kOf l.length)) (m - kOf l.length) false; omega) ?_
          intro w' hx
          have := ih _ (l.drop (kOf l.length)) (m - kOf l.length) false w' (by rw [List.length_drop]; omega) (by omega) (by omega) (by rw [List.length_drop]; omega) (fun z h => hz z (List.mem_of_mem_drop h)) (hR0.below hx)
          rw [show ((m - kOf l.length : Nat) : Int) = (m : Int) - (kOf l.length : Nat) by omega] at this
          exact this
end Go.Proofs.Ytnpbapefjbfndaa
