/- bytes.Join: the shelf's law, laid by hand. Texts of leaves and nodes (walks). -/
import Derived.Test.YtnpbapefjbfndaaZExtX
import Derived.Shelf.Bytes.SlJoin
import Derived.Test.YtnpbapefjbfndaaZExtA
set_option linter.unusedVariables false
set_option linter.unusedSimpArgs false
set_option maxRecDepth 10000
namespace Go.Proofs.Ytnpbapefjbfndaa
open Go.RowKit
open Go.Shelf

def joinRen : Ren := ⟨fun | 14 => 52 | 15 => 61 | n => n, fun | 0 => 0 | 3 => 3 | 4 => 4 | 5 => 5 | 9 => 9 | 20 => 20 | 22 => 23 | 26 => 22 | n => n, fun n => n⟩
theorem joinLays : SlLaysJ.n14 Try.prog joinRen := {
  mixed := by kernel_rfl
  f14 := by kernel_rfl
  f15 := by kernel_rfl
  t0 := by kernel_rfl
  a0 := fun w => by kernel_rfl
  z0 := fun w => by kernel_rfl
  v0 := fun w => by kernel_rfl
  t3 := by kernel_rfl
  a3 := fun w => by kernel_rfl
  z3 := fun w => by kernel_rfl
  v3 := fun w => by kernel_rfl
  t4 := by kernel_rfl
  a4 := fun w => by kernel_rfl
  z4 := fun w => by kernel_rfl
  v4 := fun w => by kernel_rfl
  t9 := by kernel_rfl
  a9 := fun w => by kernel_rfl
  z9 := fun w => by kernel_rfl
  v9 := fun w => by kernel_rfl
  t20 := by kernel_rfl
  a20 := fun w => by kernel_rfl
  z20 := fun w => by kernel_rfl
  v20 := fun w => by kernel_rfl
  t22 := by kernel_rfl
  a22 := fun w => by kernel_rfl
  z22 := fun w => by kernel_rfl
  v22 := fun w => by kernel_rfl
  t26 := by kernel_rfl
  a26 := fun w => by kernel_rfl
  z26 := fun w => by kernel_rfl
  v26 := fun w => by kernel_rfl
  t5 := by kernel_rfl
  z5 := fun w => by kernel_rfl
  i5 := by kernel_rfl }
end Go.Proofs.Ytnpbapefjbfndaa
set_option linter.unusedVariables false
set_option linter.unusedSimpArgs false
set_option maxRecDepth 10000
namespace Go.Proofs.Ytnpbapefjbfndaa
open Go.RowKit
attribute [local go_sem high] dg_cells guard_dg rs_l rs_lh rs_lhm rs_h rs_hm rs_all

theorem slB_fresh {B : Nat} {w : World} {v : Value} {l : List UInt8} (h : Lib.FreshBytes B w v l) : SlB w v l := by
  obtain ⟨g, cap, zs, rfl, _, hc, hm, hz, hr, hb, hcl, _⟩ := h
  refine ⟨_, _, rfl, hc, hm, by simp, Rc.of_some fun j u hj => ?_⟩
  have hj' : j < l.length := by
    have := (List.getElem?_eq_some_iff.1 hj).1
    simpa [bs] using this
  rw [bs_get l hj'] at hj
  cases hj
  rw [Addr.add_lit, Nat.zero_add, hcl j (by omega)]
  have hjz : j < zs.length := by omega
  have hx := hr zs[j] (List.getElem_mem hjz)
  have e : l.getD j 0 = UInt8.ofNat (zs[j]).toNat := by
    have : (Lib.bytesOf (zs.take l.length)).getD j 0 = UInt8.ofNat (zs[j]).toNat := by simp [Lib.bytesOf, hjz, hj']
    rwa [hb] at this
  rw [e]
  simp [hjz, c8]
  omega
theorem holds_of {w : World} {v : Value} {l : List UInt8} (h : SlB w v l) : Lib.HoldsBytes w v l := by
  obtain ⟨A, c, rfl, hc, hm, hA, hr⟩ := h
  refine ⟨A, c, rfl, fun h0 => ?_, fun a ha i x hx => ?_⟩
  · subst h0; have := hr.none_; cases l <;> simp_all [bs]
  · subst ha; have := hr.some_ i (.int .u8 (c8 x)) (by simp [bs, hx]); exact this
theorem join_flat (zs : List (List UInt8)) (h : 1 ≤ zs.length) : Lib.join zs [] = zs.flatten := by
  cases zs with
  | nil => simp at h
  | cons x r => rw [Lib.join_cons]; unfold Lib.joinTail; simp
/-- bytes.Join of one part or more, without a separator. -/
theorem join_any (b n c : Nat) (zs : List (List UInt8)) (w : World) (h : SlX w (.slice (some ⟨b, 0, none⟩) n c) zs) (h0 : 1 ≤ zs.length) (hl : Lib.lens zs ≤ 140737488355328) (hn : zs.length ≤ 140737488355328) :
    Calls Try.prog 52 #[.slice (some ⟨b, 0, none⟩) n c, .slice none 0 0] w fun e w' => ∃ v', e = .returned v' ∧ SlB w' v' zs.flatten ∧ Below w.heap.size w w' := by
  obtain ⟨vs, ⟨A, c', e, h1, h2, h3, hr⟩, h4, h5⟩ := h
  injection e with e1 e2 e3
  subst e1; subst e2; subst e3
  have hp : Lib.PartsAt w ⟨b, 0, none⟩ vs zs := ⟨h4, fun i v hv => hr.some_ i v hv, fun i v l hv hl => holds_of (h5 i v l hv hl)⟩
  by_cases h6 : zs.length = 1
  · obtain ⟨x, rfl⟩ : ∃ x, zs = [x] := by
      match zs, h6 with
      | [x], _ => exact ⟨x, rfl⟩
    obtain ⟨p, cap, l, hl0, hcell, hpn, hpc⟩ := hp.get 0 (by simp)
    simp at hl0
    subst hl0
    rw [Addr.add_lit, Nat.zero_add] at hcell
    by_cases hx : x.length = 0
    · have hx0 : x = [] := List.eq_nil_of_length_eq_zero hx
      subst hx0
      refine (Any.bytes_Join_one_empty joinLays b 0 _ p cap (.slice none 0 0) w hcell).mono ?_
      rintro e w' ⟨rfl, rfl⟩
      exact ⟨_, rfl, slB_nil _, Below.refl _ _⟩
    · obtain ⟨ad, rfl⟩ : ∃ ad, p = some ad := by
        cases p with
        | none => exact absurd (by rw [hpn rfl]; rfl) hx
        | some ad => exact ⟨ad, rfl⟩
      refine (Any.bytes_Join_one joinLays b 0 _ ad cap x (.slice none 0 0) w hcell (hpc ad rfl) (by omega) (by simp [Lib.lens] at hl; omega)).mono ?_
      rintro e w' ⟨v', rfl, hf, hb⟩
      exact ⟨v', rfl, by simpa using slB_fresh hf, hb⟩
  · refine (Any.bytes_Join_many joinLays b 0 zs.length _ vs zs (.slice none 0 0) [] w rfl (by omega) hp h1 ⟨none, 0, rfl, fun _ => rfl, fun a ha => by cases ha⟩ hn (by simpa using hl)).mono ?_
    rintro e w' ⟨v', rfl, hf, hb⟩
    exact ⟨v', rfl, by rw [← join_flat zs h0]; exact slB_fresh hf, hb⟩
set_option maxHeartbeats 4000000 in
theorem joined_own (f : UInt8) (ps : Value) (xs : List UInt8) (w : World) (hl : xs.length ≤ 70368744177664)
    (hJ : ∀ w', Below w.heap.size w w' → Calls Try.prog 52 #[ps, .slice none 0 0] w' fun e w'' => ∃ v', e = .returned v' ∧ SlB w'' v' xs ∧ Below w'.heap.size w' w'') :
    Calls Try.prog 38 #[.int .u8 (c8 f), ps] w fun e w' => ∃ v', e = .returned v' ∧ OwB 0 w' v' (f :: xs) ∧ Below w.heap.size w w' := by
  have e1 := ext_alloc w (.cells #[.int .u8 (c8 f)] 5)
  have o1 := own_one w f w.heap.size (Nat.le_refl _)
  have j1 := hJ _ e1
  clear hJ
  go_enter Try.func38, Try.ntmps38
  go_wp2_with fail
  refine j1.mono ?_
  rintro e w2 ⟨v2, rfl, s2, b2⟩
  have o2 := o1.below b2
  have bw := Ext.trans e1 b2
  have z2 := bw.size
  clear o1 b2 e1
  go_wp2_with (at_builtin; go_loud (refine wpl_apB (B := w.heap.size) rfl _ _ rfl rfl o2 rfl s2 (by simp; omega) z2 ?_))
  intro v3 w3 h3 b3
  go_wp2_with fail
  go_ret
  exact ⟨_, rfl, h3.mono (Nat.zero_le _), Below.trans bw b3⟩
set_option maxHeartbeats 4000000 in
theorem rleaf_own (v : Value) (b : List UInt8) (w : World) (hv : SlB w v b) (hl : b.length ≤ 70368744177664) :
    Calls Try.prog 49 #[v] w fun e w' => ∃ v', e = .returned v' ∧ OwB 0 w' v' (0 :: b) ∧ Below w.heap.size w w' := by
  have e1 := ext_alloc w (.cells #[.int .u8 0] 5)
  have o1 : OwB w.heap.size (w.alloc (.cells #[.int .u8 0] 5)) (.slice (some ⟨w.heap.size, 0, none⟩) 1 1) [0] := own_one w 0 w.heap.size (Nat.le_refl _)
  have hv1 := hv.below e1
  have bw := e1.size
  go_enter Try.func49, Try.ntmps49
  go_wp2_with (at_builtin; go_loud (refine wpl_apB (B := w.heap.size) rfl _ _ rfl rfl o1 rfl hv1 (by simp; omega) bw ?_))
  intro v3 w3 h3 b3
  go_wp2_with fail
  go_ret
  exact ⟨_, rfl, h3.mono (Nat.zero_le _), Below.trans e1 b3⟩
set_option maxHeartbeats 4000000 in
theorem rnode_own (a b : List UInt8) (ha : a.length = 32) (hb : b.length = 32) (w : World) :
    Calls Try.prog 50 #[dg a, dg b] w fun e w' => ∃ v', e = .returned v' ∧ OwB 0 w' v' (ndL a b) ∧ Below w.heap.size w w' := by
  obtain ⟨h1, h2, b2, z2⟩ := alloc2 (w := w) (o1 := .cells (bs a).toArray 38 (0, 0)) (o2 := .cells (bs b).toArray 38 (0, 0)) rfl
  have rA : RowT 38 _ w.heap.size a := h1
  have rB : RowT 38 _ (w.heap.size + 1) b := h2
  have o1 : OwB (w.heap.size + 1 + 1) (((w.alloc (.cells (bs a).toArray 38 (0, 0))).alloc (.cells (bs b).toArray 38 (0, 0))).alloc (.cells #[.int .u8 1] 5)) (.slice (some ⟨((w.alloc (.cells (bs a).toArray 38 (0, 0))).alloc (.cells (bs b).toArray 38 (0, 0))).heap.size, 0, none⟩) 1 1) [1] := own_one ((w.alloc (.cells (bs a).toArray 38 (0, 0))).alloc (.cells (bs b).toArray 38 (0, 0))) 1 (w.heap.size + 1 + 1) (by rw [z2]; exact Nat.le_refl _)
  have e3 := ext_alloc ((w.alloc (.cells (bs a).toArray 38 (0, 0))).alloc (.cells (bs b).toArray 38 (0, 0))) (.cells #[.int .u8 1] 5)
  have rA3 := rA.below e3
  have rB3 := rB.below e3
  have bw := Below.trans b2 (e3.mono b2.size)
  rw [z2] at o1
  have sA := rA3.sl (by rw [ha]; decide)
  rw [ha] at sA
  have zz : w.heap.size + 1 + 1 ≤ (((w.alloc (.cells (bs a).toArray 38 (0, 0))).alloc (.cells (bs b).toArray 38 (0, 0))).alloc (.cells #[.int .u8 1] 5)).heap.size := Nat.le_trans (Nat.le_of_eq z2.symm) e3.size
  clear h1 h2 rA rB rA3 e3 b2
  change Calls _ _ #[.agg (bs a).toArray, .agg (bs b).toArray] _ _
  go_enter Try.func50, Try.ntmps50
  go_wp2_with (at_builtin; go_loud (refine wpl_apB (B := w.heap.size + 1 + 1) rfl _ _ rfl rfl o1 rfl sA (by simp [ha]) zz ?_))
  intro v3 w3 h3 b3
  have bw3 := Below.trans bw (b3.mono (by omega))
  have rB4 : RowT 38 w3 (w.heap.size + 1) b := (b3.block _ (by omega)).trans rB3
  have sB := rB4.sl (by rw [hb]; decide)
  rw [hb] at sB
  have z3 : w.heap.size + 1 + 1 ≤ w3.heap.size := Nat.le_trans zz b3.size
  clear b3 rB3 rB4 o1 sA bw zz
  go_wp2_with (at_builtin; go_loud (refine wpl_apB (B := w.heap.size + 1 + 1) rfl _ _ rfl rfl h3 rfl sB (by simp [ha, hb]) z3 ?_))
  intro v4 w4 h4 b4
  go_wp2_with fail
  go_ret
  exact ⟨_, rfl, h4.mono (Nat.zero_le _), Below.trans bw3 (b4.mono (by omega))⟩
theorem two_parts {w X : World} {a b : List UInt8} (hz : X.heap.size = w.heap.size + 2) (la : a.length = 32) (lb : b.length = 32) (rA : RowT 38 X w.heap.size a) (rB : RowT 38 X (w.heap.size + 1) b) :
    SlX (X.alloc (.cells #[.slice (some ⟨w.heap.size, 0, none⟩) 32 32, .slice (some ⟨w.heap.size + 1, 0, none⟩) 32 32] 23)) (.slice (some ⟨w.heap.size + 2, 0, none⟩) 2 2) [a, b] := by
  have e := ext_alloc X (.cells #[.slice (some ⟨w.heap.size, 0, none⟩) 32 32, .slice (some ⟨w.heap.size + 1, 0, none⟩) 32 32] 23)
  have hr := rc_new X [.slice (some ⟨w.heap.size, 0, none⟩) 32 32, .slice (some ⟨w.heap.size + 1, 0, none⟩) 32 32] 23
  rw [hz] at hr
  have sA := (rA.below e).sl (by rw [la]; decide)
  have sB := (rB.below e).sl (by rw [lb]; decide)
  rw [la] at sA
  rw [lb] at sB
  refine ⟨_, ⟨_, _, rfl, by simp, by simp, by simp, hr⟩, rfl, fun i u x hu hx => ?_⟩
  match i, hu, hx with
  | 0, hu, hx => cases hu; cases hx; exact sA
  | 1, hu, hx => cases hu; cases hx; exact sB
theorem joined_node_own {W : World} {B : Nat} {a b : List UInt8} (la : a.length = 32) (lb : b.length = 32) (h : SlX W (.slice (some ⟨B, 0, none⟩) 2 2) [a, b]) :
    Calls Try.prog 38 #[.int .u8 1, .slice (some ⟨B, 0, none⟩) 2 2] W fun e w' => ∃ v', e = .returned v' ∧ OwB 0 w' v' (ndL a b) ∧ Below W.heap.size W w' :=
  joined_own 1 _ (a ++ b) W (by simp [la, lb]) fun w' h' => (join_any B 2 2 [a, b] w' (h.below h') (by simp) (by simp [Lib.lens, la, lb]) (by simp)).mono (by rintro e w'' ⟨v', rfl, h, k⟩; exact ⟨v', rfl, by simpa using h, k⟩)
set_option maxHeartbeats 4000000 in
theorem node_own (a b : List UInt8) (la : a.length = 32) (lb : b.length = 32) (w : World) :
    Calls Try.prog 39 #[dg a, dg b] w fun e w' => ∃ v', e = .returned v' ∧ OwB 0 w' v' (ndL a b) ∧ Below w.heap.size w w' := by
  change Calls _ _ #[.agg (bs a).toArray, .agg (bs b).toArray] _ _
  go_enter Try.func39, Try.ntmps39
  go_wp2_with fail
  generalize hX : World.alloc (World.alloc w _) _ = X
  obtain ⟨h1, h2, b2, z2⟩ := alloc2 hX
  have rA : RowT 38 X w.heap.size a := h1
  have rB : RowT 38 X (w.heap.size + 1) b := h2
  clear hX h1 h2
  have fA := fun w' (h : Ext X w') => rA.below h
  have fB := fun w' (h : Ext X w') => rB.below h
  have hcur : Below w.heap.size w X := b2
  have e0 := Ext.refl X
  refine wp_region_E (by kernel_rfl) ?_
  replace hcur := below_via hcur (ext_drew _)
  replace e0 := Ext.trans e0 (ext_drew _)
  refine wpAnyE_take (i := 0) (v := ?_) (some 5) rfl rfl (by kernel_rfl) (by kernel_rfl) (by kernel_rfl) (fun _ _ _ h => h) ?_ ?_
  rotate_left 1
  · (refine Or.inl ⟨by rfl, ?_⟩; intro w' hw'; have hq := below_via hcur hw'; have hq_e0 := Ext.trans e0 hw'; (try go_simp); (try rfl); done)
  try simp only [Act.put, List.setIfInBounds_toArray, List.set_cons_zero, List.set_cons_succ]
  refine wpAnyE_take (i := 1) (v := ?_) (some 6) rfl rfl (by kernel_rfl) (by kernel_rfl) (by kernel_rfl) (fun _ _ _ h => h) ?_ ?_
  rotate_left 1
  · (refine Or.inl ⟨by rfl, ?_⟩; intro w' hw'; have hq := below_via hcur hw'; have hq_e0 := Ext.trans e0 hw'; (try go_simp); (try rfl); done)
  try simp only [Act.put, List.setIfInBounds_toArray, List.set_cons_zero, List.set_cons_succ]
  refine wpAnyE_one (i := 2) rfl (by kernel_rfl) (by rfl) (fun K hK => ?_)
  go_simp
  go_simp
  have sx := (two_parts z2 la lb rA rB).below (ext_drew _)
  have hb : Ext X.drew _ := ext_alloc X.drew (.cells #[.slice (some ⟨w.heap.size, 0, none⟩) 32 32, .slice (some ⟨w.heap.size + 1, 0, none⟩) 32 32] 23)
  change Ext X.drew (World.drew (World.alloc X _)) at hb
  generalize World.drew (World.alloc X _) = W7 at *
  have hj := joined_node_own la lb sx
  refine hK.out _ _ hb ?_
  replace hcur := below_via hcur hb; clear hK K
  replace e0 := Ext.trans e0 hb
  try simp only [Act.put, List.setIfInBounds_toArray, List.set_cons_zero, List.set_cons_succ]
  refine wpAnyE_one (i := 3) rfl (by kernel_rfl) (by rfl) (fun K hK => ?_)
  go_simp
  (with_reducible refine hj.mono ?_); rintro e w8 ⟨v8, rfl, s8, hb⟩
  refine hK.out _ _ hb ?_
  replace hcur := below_via hcur hb; clear hK K
  replace e0 := Ext.trans e0 hb
  try simp only [Act.put, List.setIfInBounds_toArray, List.set_cons_zero, List.set_cons_succ]
  refine wpAnyE_take (i := 4) (v := ?_) (some 4) rfl rfl (by kernel_rfl) (by kernel_rfl) (by kernel_rfl) (fun _ _ _ h => h) ?_ ?_
  rotate_left 1
  · (refine Or.inl ⟨by rfl, ?_⟩; intro w' hw'; have hq := below_via hcur hw'; have hq_e0 := Ext.trans e0 hw'; (try go_simp); (try rfl); done)
  try simp only [Act.put, List.setIfInBounds_toArray, List.set_cons_zero, List.set_cons_succ]
  refine wpAnyE_done (by kernel_rfl) ?_ _
  go_wp2_with fail
  go_ret
  exact ⟨v8, rfl, s8, hcur⟩
theorem own_sl {f : FuncId} {args : Array Value} {w : World} {xs : List UInt8} (h : Calls Try.prog f args w fun e w' => ∃ v', e = .returned v' ∧ OwB 0 w' v' xs ∧ Below w.heap.size w w') : Calls Try.prog f args w fun e w' => ∃ v', e = .returned v' ∧ SlB w' v' xs ∧ Below w.heap.size w w' :=
  h.mono fun e w' ⟨v, e1, h, b⟩ => ⟨v, e1, h.sl, b⟩
theorem rleaf_any (v : Value) (b : List UInt8) (w : World) (hv : SlB w v b) (hl : b.length ≤ 70368744177664) :
    Calls Try.prog 49 #[v] w fun e w' => ∃ v', e = .returned v' ∧ SlB w' v' (0 :: b) ∧ Below w.heap.size w w' := own_sl (rleaf_own v b w hv hl)
theorem rnode_any (a b : List UInt8) (ha : a.length = 32) (hb : b.length = 32) (w : World) :
    Calls Try.prog 50 #[dg a, dg b] w fun e w' => ∃ v', e = .returned v' ∧ SlB w' v' (ndL a b) ∧ Below w.heap.size w w' := own_sl (rnode_own a b ha hb w)
theorem node_any (a b : List UInt8) (la : a.length = 32) (lb : b.length = 32) (w : World) :
    Calls Try.prog 39 #[dg a, dg b] w fun e w' => ∃ v', e = .returned v' ∧ SlB w' v' (ndL a b) ∧ Below w.heap.size w w' := own_sl (node_own a b la lb w)
end Go.Proofs.Ytnpbapefjbfndaa
