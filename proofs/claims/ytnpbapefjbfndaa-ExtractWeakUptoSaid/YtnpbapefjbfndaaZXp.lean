/- A pair of two values in a block. Lists (walk). Lists of the reference (walk): the plain cases. Two pairs that are the same; kept (walks). -/
import Derived.Test.YtnpbapefjbfndaaZExtG
import Derived.Test.YtnpbapefjbfndaaZXm
set_option linter.unusedVariables false
set_option linter.unusedSimpArgs false
set_option maxRecDepth 10000
namespace Go.Proofs.Ytnpbapefjbfndaa
open Go.RowKit

/-- Block D holds these two. -/
def PR (t : TypeId) (w : World) (D : Nat) (u v : Value) : Prop := w.heap[D]? = some (.cells #[u, v] t (0, 0))
theorem PR.below {t : TypeId} {w w' : World} {D : Nat} {u v : Value} (h : PR t w D u v) (hb : Below w.heap.size w w') : PR t w' D u v := (hb.block D (Array.getElem?_eq_some_iff.1 h).1).trans h
theorem PR.c0 {t : TypeId} {w : World} {D : Nat} {u v : Value} (h : PR t w D u v) : w.cell? ⟨D, 0, none⟩ = some u ∧ w.frozen? ⟨D, 0, none⟩ = false := by
  refine ⟨?_, ?_⟩
  · rw [cell_of_row _ _ _ _ _ _ h]; rfl
  · exact frozen_of_row _ _ _ _ _ h
theorem PR.c1 {t : TypeId} {w : World} {D : Nat} {u v : Value} (h : PR t w D u v) : w.cell? ⟨D, 1, none⟩ = some v ∧ w.frozen? ⟨D, 1, none⟩ = false := by
  refine ⟨?_, ?_⟩
  · rw [cell_of_row _ _ _ _ _ _ h]; rfl
  · exact frozen_of_row _ _ _ _ _ h
theorem PR.set0 {t : TypeId} {w : World} {D : Nat} {u v : Value} (h : PR t w D u v) (x : Value) : PR t (w.setCell ⟨D, 0, none⟩ x) D x v := by
  unfold PR at h ⊢; rw [heap_setCell_same w D 0 _ _ _ h]; rfl
theorem PR.set1 {t : TypeId} {w : World} {D : Nat} {u v : Value} (h : PR t w D u v) (x : Value) : PR t (w.setCell ⟨D, 1, none⟩ x) D u x := by
  unfold PR at h ⊢; rw [heap_setCell_same w D 1 _ _ _ h]; rfl
theorem PR.load {w : World} {D : Nat} {u v : Value} (h : PR 30 w D u v) (hu : u.oneCell' = true) (hv : v.oneCell' = true) : (loadVar 30 ⟨D, 0, none⟩).run Try.prog w = .ok (.agg #[u, v]) w := by
  have h0 := h.c0.1
  have h1 := h.c1.1
  go_simp
/-- A store onto what is no byte leaves every text. -/
theorem SlB.off {w : World} {v : Value} {x : List UInt8} {p : Addr} {s : Value} (h : SlB w v x) (hc : w.cell? p = some s) (hs : ∀ m, s ≠ .int .u8 m) (u : Value) : SlB (w.setCell p u) v x := by
  obtain ⟨A, c, rfl, h1, h2, h3, hr⟩ := h
  refine ⟨A, c, rfl, h1, h2, h3, fun i y hy => ?_⟩
  obtain ⟨ad, e, hcell⟩ := hr i y hy
  refine ⟨ad, e, ?_⟩
  have hne : p ≠ ad.add i := by
    intro hp
    rw [← hp, hc] at hcell
    have hi : i < x.length := by have := (List.getElem?_eq_some_iff.1 hy).1; simpa [bs] using this
    rw [bs_get x hi] at hy
    cases hy
    exact hs _ (Option.some.inj hcell)
  exact (World.cell?_setCell_other (h := hne) ..).trans hcell
end Go.Proofs.Ytnpbapefjbfndaa
set_option linter.unusedVariables false
set_option linter.unusedSimpArgs false
set_option maxRecDepth 10000
namespace Go.Proofs.Ytnpbapefjbfndaa
open Go.RowKit
attribute [local go_sem high] dg_cells guard_dg rs_l rs_lh rs_lhm rs_h rs_hm rs_all

/-- A pair as it is handed back. -/
def PairAt (w : World) (v : Value) (o : Option (List UInt8 × List UInt8)) : Prop := ∃ va vb, v = .agg #[va, vb] ∧ SlB w va (o.getD ([], [])).1 ∧ SlB w vb (o.getD ([], [])).2
set_option maxHeartbeats 4000000 in
theorem lists_none (g k : Nat) (hk : k ≤ 256) (va vb : Value) (a b : List (List UInt8)) (w : World) (la : a.length ≤ 1048576) (lb : b.length ≤ 1048576) (za : ∀ z ∈ a, z.length ≤ 1048576) (zb : ∀ z ∈ b, z.length ≤ 1048576)
    (ha : SlX w va a) (hb : SlX w vb b) (hg : HvAt w g k) (hab : a = b) :
    Calls Try.prog 12 #[hv g, va, vb] w fun e w' => ∃ v, e = .returned (.tuple #[v, .bool false]) ∧ PairAt w' v none ∧ Below w.heap.size w w' := by
  have q1 := hv_eql g
  have e0 := ext_alloc w (.cells #[.slice none 0 0, .slice none 0 0] 30)
  have hs := same_any va vb a b _ (ha.below e0) (hb.below e0)
  rw [decide_eq_true hab] at hs
  clear ha hb hg hab
  unfold hv
  go_enter Try.func12, Try.ntmps12
  go_wp2_with fail
  refine hs.mono ?_
  rintro e w2 ⟨rfl, b2⟩
  have bw := Ext.trans e0 b2
  have hR0 : PR 30 (w.alloc (.cells #[.slice none 0 0, .slice none 0 0] 30)) w.heap.size (.slice none 0 0) (.slice none 0 0) := heap_alloc_new _ _
  have hR := hR0.below b2
  have hR1 := hR.set0 (.slice none 0 0)
  have hR2 := hR1.set1 (.slice none 0 0)
  have c0 := hR.c0
  have c1 := hR1.c1
  have hret := hR2.load rfl rfl
  have bz : Below w.heap.size w _ := below_setCell (k := 1) (below_setCell (k := 0) bw (Nat.le_refl w.heap.size) (.slice none 0 0)) (Nat.le_refl w.heap.size) (.slice none 0 0)
  go_wp2_with fail
  exact ret_cell2 (v := .agg #[.slice none 0 0, .slice none 0 0]) Try.results12 rfl hret rfl ⟨_, rfl, ⟨_, _, rfl, slB_nil _, slB_nil _⟩, bz⟩
set_option maxHeartbeats 4000000 in
theorem lists_apart (g k : Nat) (hk : k ≤ 256) (va vb : Value) (a b : List (List UInt8)) (w : World) (la : a.length ≤ 1048576) (lb : b.length ≤ 1048576) (za : ∀ z ∈ a, z.length ≤ 1048576) (zb : ∀ z ∈ b, z.length ≤ 1048576)
    (ha : SlX w va a) (hb : SlX w vb b) (hg : HvAt w g k) (hab : a ≠ b) (hrr : rootX k a ≠ rootX k b) :
    Calls Try.prog 12 #[hv g, va, vb] w fun e w' => ∃ v, e = .returned (.tuple #[v, .bool false]) ∧ PairAt w' v none ∧ Below w.heap.size w w' := by
  have q1 := hv_eql g
  have e0 := ext_alloc w (.cells #[.slice none 0 0, .slice none 0 0] 30)
  have hs := same_any va vb a b _ (ha.below e0) (hb.below e0)
  rw [decide_eq_false hab] at hs
  have ka := fun w' (h : Ext w w') => root_any g k hk va a w' la za (ha.below h) (hg.below h)
  have kb := fun w' (h : Ext w w') => root_any g k hk vb b w' lb zb (hb.below h) (hg.below h)
  have da := rootX_length k a
  have db := rootX_length k b
  have qn := fun w' => arr_dg.neq (rootX k a) (rootX k b) da db w'
  have hrb : (rootX k a == rootX k b) = false := beq_eq_false_iff_ne.2 hrr
  rw [hrb] at qn
  have hR0 : PR 30 (w.alloc (.cells #[.slice none 0 0, .slice none 0 0] 30)) w.heap.size (.slice none 0 0) (.slice none 0 0) := heap_alloc_new _ _
  clear ha hb hg hab hrr hrb za zb
  generalize rootX k a = xa at *
  generalize rootX k b = xb at *
  unfold hv at *
  go_enter Try.func12, Try.ntmps12
  go_wp2_with fail
  refine hs.mono ?_
  rintro e w2 ⟨rfl, b2⟩
  have bw := Ext.trans e0 b2
  have hR := hR0.below b2
  clear hR0 b2 e0
  go_wp2_with fail
  (with_reducible refine (ka _ bw).mono ?_); rintro e w3 ⟨rfl, b3⟩
  have bw3 := Ext.trans bw b3
  have hR3 := hR.below b3
  clear hR b3 bw
  go_wp2_with fail
  (with_reducible refine (kb _ bw3).mono ?_); rintro e w4 ⟨rfl, b4⟩
  have bw4 := Ext.trans bw3 b4
  have hR4 := hR3.below b4
  clear hR3 b4 bw3
  have hR1 := hR4.set0 (.slice none 0 0)
  have hR2 := hR1.set1 (.slice none 0 0)
  have c0 := hR4.c0
  have c1 := hR1.c1
  have hret := hR2.load rfl rfl
  have bz : Below w.heap.size w _ := below_setCell (k := 1) (below_setCell (k := 0) bw4 (Nat.le_refl w.heap.size) (.slice none 0 0)) (Nat.le_refl w.heap.size) (.slice none 0 0)
  go_wp2_with fail
  exact ret_cell2 (v := .agg #[.slice none 0 0, .slice none 0 0]) Try.results12 rfl hret rfl ⟨_, rfl, ⟨_, _, rfl, slB_nil _, slB_nil _⟩, bz⟩
def sliceLen : Value → Nat
  | .slice _ n _ => n
  | _ => 0
set_option maxHeartbeats 8000000 in
theorem lists_met (g k : Nat) (hk : k ≤ 256) (va vb : Value) (a b : List (List UInt8)) (w : World) (la : a.length ≤ 1048576) (lb : b.length ≤ 1048576) (za : ∀ z ∈ a, z.length ≤ 1048576) (zb : ∀ z ∈ b, z.length ≤ 1048576)
    (ha : SlX w va a) (hb : SlX w vb b) (hg : HvAt w g k) (hab : a ≠ b) (hrr : rootX k a = rootX k b) :
    Calls Try.prog 12 #[hv g, va, vb] w fun e w' => ∃ v, e = .returned (.tuple #[v, .bool true]) ∧ (∃ x y, listsL k a b = some (x, y)) ∧ PairAt w' v (listsL k a b) ∧ Below w.heap.size w w' := by
  have q1 := hv_eql g
  have e0 := ext_alloc w (.cells #[.slice none 0 0, .slice none 0 0] 30)
  have hs := same_any va vb a b _ (ha.below e0) (hb.below e0)
  rw [decide_eq_false hab] at hs
  have ka := fun w' (h : Ext w w') => root_any g k hk va a w' la za (ha.below h) (hg.below h)
  have kb := fun w' (h : Ext w w') => root_any g k hk vb b w' lb zb (hb.below h) (hg.below h)
  have da := rootX_length k a
  have qn := fun w' => arr_dg.neqSelf (rootX k a) da w'
  rw [← hrr] at kb
  have hR0 : PR 30 (w.alloc (.cells #[.slice none 0 0, .slice none 0 0] 30)) w.heap.size (.slice none 0 0) (.slice none 0 0) := heap_alloc_new _ _
  have hI : Hid (¬ (a = b ∨ rootX k a ≠ rootX k b)) := by unfold Hid; simp [hab, hrr]
  have hgl := World.block_lt_of_cell? _ _ hg
  clear hab hrr
  generalize rootX k a = xa at ka kb qn da
  unfold hv at *
  go_enter Try.func12, Try.ntmps12
  go_wp2_with fail
  refine hs.mono ?_
  rintro e w2 ⟨rfl, b2⟩
  have bw := Ext.trans e0 b2
  have hR := hR0.below b2
  clear hR0 b2 e0
  go_wp2_with fail
  (with_reducible refine (ka _ bw).mono ?_); rintro e w3 ⟨rfl, b3⟩
  have bw3 := Ext.trans bw b3
  have hR3 := hR.below b3
  clear hR b3 bw
  go_wp2_with fail
  (with_reducible refine (kb _ bw3).mono ?_); rintro e w4 ⟨rfl, b4⟩
  have bw4 := Ext.trans bw3 b4
  have hR4 := hR3.below b4
  clear hR3 b4 bw3 ka kb hs
  go_wp2_with fail
  clear qn da
  go_loopw [1, 2] (fun v1 v2 wr => ∃ a' b', SlX wr v1 a' ∧ SlX wr v2 b' ∧ a'.length ≤ 1048576 ∧ b'.length ≤ 1048576 ∧ (∀ z ∈ a', z.length ≤ 1048576) ∧ (∀ z ∈ b', z.length ≤ 1048576) ∧ Hid (¬ (a' = b' ∨ rootX k a' ≠ rootX k b')) ∧ Hid (listsL k a b = listsL k a' b') ∧ Below w.heap.size w wr ∧ PR 30 wr w.heap.size (.slice none 0 0) (.slice none 0 0)) (fun v1 _ _ => sliceLen v1)
  case atStart => exact ⟨a, b, ha.below bw4, hb.below bw4, la, lb, za, zb, hI, rfl, bw4, hR4⟩
  case round =>
    obtain ⟨a', b', ha', hb', la', lb', za', zb', hI', hL', bw, hR⟩ := hrel
    clear ha hb la lb za zb hI bw4 hR4
    have hg' := hg.below bw
    have ta := fun w' (h : Ext wr w') => text_any g k hk 1048576 _ a' w' la' (Nat.le_refl _) za' (ha'.below h) (hg'.below h)
    have tb := fun w' (h : Ext wr w') => text_any g k hk 1048576 _ b' w' lb' (Nat.le_refl _) zb' (hb'.below h) (hg'.below h)
    unfold hv at ta tb
    go_wp2_with fail
    (with_reducible refine (ta _ (Ext.refl _)).mono ?_); rintro e w5 ⟨v5, rfl, s5, b5⟩
    have x5 : Ext wr w5 := b5
    go_wp2_with fail
    (with_reducible refine (tb _ x5).mono ?_); rintro e w6 ⟨v6, rfl, s6, b6⟩
    have x6 := Ext.trans x5 b6
    have s56 := s5.below b6
    have he := equal_any v5 v6 (textL k a') (textL k b') w6 s56 s6
    obtain ⟨A5, c5, rfl, _⟩ := id s56
    obtain ⟨A6, c6, rfl, _⟩ := id s6
    have hR6 := hR.below x6
    have bw6 := Below.trans bw (x6.mono bw.size)
    clear ta tb
    by_cases hxy : textL k a' = textL k b'
    · have hne : a' ≠ b' := fun e => hI'.out (Or.inl e)
      obtain ⟨ka2, kb2, _, _⟩ := text_both (k := k) hne (by omega) (by omega) hxy
      have kla := kOf_lt (n := a'.length) ka2 (by omega)
      have klb := kOf_lt (n := b'.length) kb2 (by omega)
      obtain ⟨A1, c1, rfl, hc1, hcm1⟩ := ha'.len
      obtain ⟨A2, c2, rfl, hc2, hcm2⟩ := hb'.len
      have hja := fun w' => half_any a'.length w' ka2 la'
      have hjb := fun w' => half_any b'.length w' kb2 lb'
      have hxA := ha'.below x6
      have hxB := hb'.below x6
      have hLA := hxA.slice 0 (kOf a'.length) (by omega) (by omega)
      have hLB := hxB.slice 0 (kOf b'.length) (by omega) (by omega)
      have hRA := hxA.slice (kOf a'.length) a'.length (by omega) (Nat.le_refl _)
      have hRB := hxB.slice (kOf b'.length) b'.length (by omega) (Nat.le_refl _)
      simp only [List.drop_zero, Nat.sub_zero, slA_zero] at hLA hLB
      rw [List.take_of_length_le (by simp)] at hRA hRB
      have hnl1 := listsL_left (k := k) hI'.out hxy (by omega) (by omega)
      have hnl2 := listsL_right (k := k) hI'.out hxy (by omega) (by omega)
      have hnx1 := next_left (k := k) hI'.out hxy (by omega) (by omega)
      have hnx2 := next_right (k := k) hI'.out hxy (by omega) (by omega)
      have hsm := fun w' (h : Ext w6 w') => same_any _ _ _ _ w' (hLA.below h) (hLB.below h)
      generalize kOf a'.length = ja at *
      generalize kOf b'.length = jb at *
      have g1 : (ja : Int) ≤ c1 := by omega
      have g2 : (ja : Int) ≤ a'.length := by omega
      have g3 : (jb : Int) ≤ c2 := by omega
      have g4 : (jb : Int) ≤ b'.length := by omega
      rw [decide_eq_true hxy] at he
      have e0 := Ext.refl w6
      have hcur : Below w.heap.size w w6 := bw6
      clear s5 s56 s6 ha' hb' hxA hxB x5 x6 b5 b6 hxy hne hR
      go_wp2_with fail
      (with_reducible refine he.mono ?_); rintro e w7 ⟨rfl, rfl⟩
      go_wp2_with fail
      (with_reducible refine (hja _).mono ?_); rintro e w7 ⟨rfl, rfl⟩
      go_wp2_with fail
      (with_reducible refine (hjb _).mono ?_); rintro e w7 ⟨rfl, rfl⟩
      by_cases hd : a'.take ja = b'.take jb
      · rw [decide_eq_true hd] at hsm
        have hnl : Hid _ := hnl2 hd
        have hnx : Hid _ := hnx2 hd
        clear hnl1 hnl2 hnx1 hnx2 hd
        go_wp2_with fail
        refine wp_region_E (by kernel_rfl) ?_
        replace hcur := below_via hcur (ext_drew _)
        replace e0 := Ext.trans e0 (ext_drew _)
        refine wpAnyE_take (i := 0) (v := ?_) (some 48) rfl rfl (by kernel_rfl) (by kernel_rfl) (by kernel_rfl) (fun _ _ _ h => h) ?_ ?_
        rotate_left 1
        · (refine Or.inl ⟨by rfl, ?_⟩; intro w' hw'; have hq := below_via hcur hw'; have hq_e0 := Ext.trans e0 hw'; (try go_simp); (try rfl); done)
        try simp only [Act.put, List.setIfInBounds_toArray, List.set_cons_zero, List.set_cons_succ]
        refine wpAnyE_take (i := 1) (v := ?_) (some 49) rfl rfl (by kernel_rfl) (by kernel_rfl) (by kernel_rfl) (fun _ _ _ h => h) ?_ ?_
        rotate_left 1
        · (refine Or.inl ⟨by rfl, ?_⟩; intro w' hw'; have hq := below_via hcur hw'; have hq_e0 := Ext.trans e0 hw'; (try go_simp); (try rfl); done)
        try simp only [Act.put, List.setIfInBounds_toArray, List.set_cons_zero, List.set_cons_succ]
        refine wpAnyE_take (i := 2) (v := ?_) (some 50) rfl rfl (by kernel_rfl) (by kernel_rfl) (by kernel_rfl) (fun _ _ _ h => h) ?_ ?_
        rotate_left 1
        · (refine Or.inl ⟨by rfl, ?_⟩; intro w' hw'; have hq := below_via hcur hw'; have hq_e0 := Ext.trans e0 hw'; (try go_simp); (try rfl); done)
        try simp only [Act.put, List.setIfInBounds_toArray, List.set_cons_zero, List.set_cons_succ]
        refine wpAnyE_take (i := 3) (v := ?_) (some 51) rfl rfl (by kernel_rfl) (by kernel_rfl) (by kernel_rfl) (fun _ _ _ h => h) ?_ ?_
        rotate_left 1
        · (refine Or.inl ⟨by rfl, ?_⟩; intro w' hw'; have hq := below_via hcur hw'; have hq_e0 := Ext.trans e0 hw'; (try go_simp); (try rfl); done)
        try simp only [Act.put, List.setIfInBounds_toArray, List.set_cons_zero, List.set_cons_succ]
        refine wpAnyE_take (i := 4) (v := ?_) (some 52) rfl rfl (by kernel_rfl) (by kernel_rfl) (by kernel_rfl) (fun _ _ _ h => h) ?_ ?_
        rotate_left 1
        · (refine Or.inl ⟨by rfl, ?_⟩; intro w' hw'; have hq := below_via hcur hw'; have hq_e0 := Ext.trans e0 hw'; (try go_simp); (try rfl); done)
        try simp only [Act.put, List.setIfInBounds_toArray, List.set_cons_zero, List.set_cons_succ]
        refine wpAnyE_take (i := 5) (v := ?_) (some 53) rfl rfl (by kernel_rfl) (by kernel_rfl) (by kernel_rfl) (fun _ _ _ h => h) ?_ ?_
        rotate_left 1
        · (refine Or.inl ⟨by rfl, ?_⟩; intro w' hw'; have hq := below_via hcur hw'; have hq_e0 := Ext.trans e0 hw'; (try go_simp); (try rfl); done)
        try simp only [Act.put, List.setIfInBounds_toArray, List.set_cons_zero, List.set_cons_succ]
        refine wpAnyE_one (i := 6) rfl (by kernel_rfl) (by rfl) (fun K hK => ?_)
        go_simp
        (with_reducible refine (hsm _ e0).mono ?_); rintro e w8 ⟨rfl, hb⟩
        refine hK.out _ _ hb ?_
        replace hcur := below_via hcur hb; clear hK K
        replace e0 := Ext.trans e0 hb
        try simp only [Act.put, List.setIfInBounds_toArray, List.set_cons_zero, List.set_cons_succ]
        refine wpAnyE_done (by kernel_rfl) ?_ _
        go_wp2_with fail
        refine wp_region_E (by kernel_rfl) ?_
        replace hcur := below_via hcur (ext_drew _)
        replace e0 := Ext.trans e0 (ext_drew _)
        refine wpAnyE_take (i := 0) (v := ?_) (some 55) rfl rfl (by kernel_rfl) (by kernel_rfl) (by kernel_rfl) (fun _ _ _ h => h) ?_ ?_
        rotate_left 1
        · (refine Or.inl ⟨by rfl, ?_⟩; intro w' hw'; have hq := below_via hcur hw'; have hq_e0 := Ext.trans e0 hw'; (try go_simp); (try rfl); done)
        try simp only [Act.put, List.setIfInBounds_toArray, List.set_cons_zero, List.set_cons_succ]
        refine wpAnyE_take (i := 1) (v := ?_) (some 56) rfl rfl (by kernel_rfl) (by kernel_rfl) (by kernel_rfl) (fun _ _ _ h => h) ?_ ?_
        rotate_left 1
        · (refine Or.inl ⟨by rfl, ?_⟩; intro w' hw'; have hq := below_via hcur hw'; have hq_e0 := Ext.trans e0 hw'; (try go_simp); (try rfl); done)
        try simp only [Act.put, List.setIfInBounds_toArray, List.set_cons_zero, List.set_cons_succ]
        refine wpAnyE_take (i := 2) (v := ?_) (some 57) rfl rfl (by kernel_rfl) (by kernel_rfl) (by kernel_rfl) (fun _ _ _ h => h) ?_ ?_
        rotate_left 1
        · (refine Or.inl ⟨by rfl, ?_⟩; intro w' hw'; have hq := below_via hcur hw'; have hq_e0 := Ext.trans e0 hw'; (try go_simp); (try rfl); done)
        try simp only [Act.put, List.setIfInBounds_toArray, List.set_cons_zero, List.set_cons_succ]
        refine wpAnyE_take (i := 3) (v := ?_) (some 58) rfl rfl (by kernel_rfl) (by kernel_rfl) (by kernel_rfl) (fun _ _ _ h => h) ?_ ?_
        rotate_left 1
        · (refine Or.inl ⟨by rfl, ?_⟩; intro w' hw'; have hq := below_via hcur hw'; have hq_e0 := Ext.trans e0 hw'; (try go_simp); (try rfl); done)
        try simp only [Act.put, List.setIfInBounds_toArray, List.set_cons_zero, List.set_cons_succ]
        refine wpAnyE_take (i := 4) (v := ?_) (some 59) rfl rfl (by kernel_rfl) (by kernel_rfl) (by kernel_rfl) (fun _ _ _ h => h) ?_ ?_
        rotate_left 1
        · (refine Or.inl ⟨by rfl, ?_⟩; intro w' hw'; have hq := below_via hcur hw'; have hq_e0 := Ext.trans e0 hw'; (try go_simp); (try rfl); done)
        try simp only [Act.put, List.setIfInBounds_toArray, List.set_cons_zero, List.set_cons_succ]
        refine wpAnyE_take (i := 5) (v := ?_) (some 60) rfl rfl (by kernel_rfl) (by kernel_rfl) (by kernel_rfl) (fun _ _ _ h => h) ?_ ?_
        rotate_left 1
        · (refine Or.inl ⟨by rfl, ?_⟩; intro w' hw'; have hq := below_via hcur hw'; have hq_e0 := Ext.trans e0 hw'; (try go_simp); (try rfl); done)
        try simp only [Act.put, List.setIfInBounds_toArray, List.set_cons_zero, List.set_cons_succ]
        refine wpAnyE_take (i := 6) (v := ?_) (some 1) rfl rfl (by kernel_rfl) (by kernel_rfl) (by kernel_rfl) (fun _ _ _ h => h) ?_ ?_
        rotate_left 1
        · (refine Or.inl ⟨by rfl, ?_⟩; intro w' hw'; have hq := below_via hcur hw'; have hq_e0 := Ext.trans e0 hw'; (try go_simp); (try rfl); done)
        try simp only [Act.put, List.setIfInBounds_toArray, List.set_cons_zero, List.set_cons_succ]
        refine wpAnyE_take (i := 7) (v := ?_) (some 2) rfl rfl (by kernel_rfl) (by kernel_rfl) (by kernel_rfl) (fun _ _ _ h => h) ?_ ?_
        rotate_left 1
        · (refine Or.inl ⟨by rfl, ?_⟩; intro w' hw'; have hq := below_via hcur hw'; have hq_e0 := Ext.trans e0 hw'; (try go_simp); (try rfl); done)
        try simp only [Act.put, List.setIfInBounds_toArray, List.set_cons_zero, List.set_cons_succ]
        refine wpAnyE_done (by kernel_rfl) ?_ _
        go_wp2_with fail
        go_roundw
        case rel => exact ⟨_, _, hRA.below e0, hRB.below e0, by rw [List.length_drop]; omega, by rw [List.length_drop]; omega, fun z hz => za' z (List.mem_of_mem_drop hz), fun z hz => zb' z (List.mem_of_mem_drop hz), hnx, hL'.out.trans hnl.out, hcur, hR6.below e0⟩
        case measure => simp [sliceLen]; omega
      · rw [decide_eq_false hd] at hsm
        have hnl : Hid _ := hnl1 hd
        have hnx : Hid _ := hnx1 hd
        clear hnl1 hnl2 hnx1 hnx2 hd
        go_wp2_with fail
        refine wp_region_E (by kernel_rfl) ?_
        replace hcur := below_via hcur (ext_drew _)
        replace e0 := Ext.trans e0 (ext_drew _)
        refine wpAnyE_take (i := 0) (v := ?_) (some 48) rfl rfl (by kernel_rfl) (by kernel_rfl) (by kernel_rfl) (fun _ _ _ h => h) ?_ ?_
        rotate_left 1
        · (refine Or.inl ⟨by rfl, ?_⟩; intro w' hw'; have hq := below_via hcur hw'; have hq_e0 := Ext.trans e0 hw'; (try go_simp); (try rfl); done)
        try simp only [Act.put, List.setIfInBounds_toArray, List.set_cons_zero, List.set_cons_succ]
        refine wpAnyE_take (i := 1) (v := ?_) (some 49) rfl rfl (by kernel_rfl) (by kernel_rfl) (by kernel_rfl) (fun _ _ _ h => h) ?_ ?_
        rotate_left 1
        · (refine Or.inl ⟨by rfl, ?_⟩; intro w' hw'; have hq := below_via hcur hw'; have hq_e0 := Ext.trans e0 hw'; (try go_simp); (try rfl); done)
        try simp only [Act.put, List.setIfInBounds_toArray, List.set_cons_zero, List.set_cons_succ]
        refine wpAnyE_take (i := 2) (v := ?_) (some 50) rfl rfl (by kernel_rfl) (by kernel_rfl) (by kernel_rfl) (fun _ _ _ h => h) ?_ ?_
        rotate_left 1
        · (refine Or.inl ⟨by rfl, ?_⟩; intro w' hw'; have hq := below_via hcur hw'; have hq_e0 := Ext.trans e0 hw'; (try go_simp); (try rfl); done)
        try simp only [Act.put, List.setIfInBounds_toArray, List.set_cons_zero, List.set_cons_succ]
        refine wpAnyE_take (i := 3) (v := ?_) (some 51) rfl rfl (by kernel_rfl) (by kernel_rfl) (by kernel_rfl) (fun _ _ _ h => h) ?_ ?_
        rotate_left 1
        · (refine Or.inl ⟨by rfl, ?_⟩; intro w' hw'; have hq := below_via hcur hw'; have hq_e0 := Ext.trans e0 hw'; (try go_simp); (try rfl); done)
        try simp only [Act.put, List.setIfInBounds_toArray, List.set_cons_zero, List.set_cons_succ]
        refine wpAnyE_take (i := 4) (v := ?_) (some 52) rfl rfl (by kernel_rfl) (by kernel_rfl) (by kernel_rfl) (fun _ _ _ h => h) ?_ ?_
        rotate_left 1
        · (refine Or.inl ⟨by rfl, ?_⟩; intro w' hw'; have hq := below_via hcur hw'; have hq_e0 := Ext.trans e0 hw'; (try go_simp); (try rfl); done)
        try simp only [Act.put, List.setIfInBounds_toArray, List.set_cons_zero, List.set_cons_succ]
        refine wpAnyE_take (i := 5) (v := ?_) (some 53) rfl rfl (by kernel_rfl) (by kernel_rfl) (by kernel_rfl) (fun _ _ _ h => h) ?_ ?_
        rotate_left 1
        · (refine Or.inl ⟨by rfl, ?_⟩; intro w' hw'; have hq := below_via hcur hw'; have hq_e0 := Ext.trans e0 hw'; (try go_simp); (try rfl); done)
        try simp only [Act.put, List.setIfInBounds_toArray, List.set_cons_zero, List.set_cons_succ]
        refine wpAnyE_one (i := 6) rfl (by kernel_rfl) (by rfl) (fun K hK => ?_)
        go_simp
        (with_reducible refine (hsm _ e0).mono ?_); rintro e w8 ⟨rfl, hb⟩
        refine hK.out _ _ hb ?_
        replace hcur := below_via hcur hb; clear hK K
        replace e0 := Ext.trans e0 hb
        try simp only [Act.put, List.setIfInBounds_toArray, List.set_cons_zero, List.set_cons_succ]
        refine wpAnyE_done (by kernel_rfl) ?_ _
        go_wp2_with fail
        refine wp_region_E (by kernel_rfl) ?_
        replace hcur := below_via hcur (ext_drew _)
        replace e0 := Ext.trans e0 (ext_drew _)
        refine wpAnyE_take (i := 0) (v := ?_) (some 61) rfl rfl (by kernel_rfl) (by kernel_rfl) (by kernel_rfl) (fun _ _ _ h => h) ?_ ?_
        rotate_left 1
        · (refine Or.inl ⟨by rfl, ?_⟩; intro w' hw'; have hq := below_via hcur hw'; have hq_e0 := Ext.trans e0 hw'; (try go_simp); (try rfl); done)
        try simp only [Act.put, List.setIfInBounds_toArray, List.set_cons_zero, List.set_cons_succ]
        refine wpAnyE_take (i := 1) (v := ?_) (some 62) rfl rfl (by kernel_rfl) (by kernel_rfl) (by kernel_rfl) (fun _ _ _ h => h) ?_ ?_
        rotate_left 1
        · (refine Or.inl ⟨by rfl, ?_⟩; intro w' hw'; have hq := below_via hcur hw'; have hq_e0 := Ext.trans e0 hw'; (try go_simp); (try rfl); done)
        try simp only [Act.put, List.setIfInBounds_toArray, List.set_cons_zero, List.set_cons_succ]
        refine wpAnyE_take (i := 2) (v := ?_) (some 63) rfl rfl (by kernel_rfl) (by kernel_rfl) (by kernel_rfl) (fun _ _ _ h => h) ?_ ?_
        rotate_left 1
        · (refine Or.inl ⟨by rfl, ?_⟩; intro w' hw'; have hq := below_via hcur hw'; have hq_e0 := Ext.trans e0 hw'; (try go_simp); (try rfl); done)
        try simp only [Act.put, List.setIfInBounds_toArray, List.set_cons_zero, List.set_cons_succ]
        refine wpAnyE_take (i := 3) (v := ?_) (some 64) rfl rfl (by kernel_rfl) (by kernel_rfl) (by kernel_rfl) (fun _ _ _ h => h) ?_ ?_
        rotate_left 1
        · (refine Or.inl ⟨by rfl, ?_⟩; intro w' hw'; have hq := below_via hcur hw'; have hq_e0 := Ext.trans e0 hw'; (try go_simp); (try rfl); done)
        try simp only [Act.put, List.setIfInBounds_toArray, List.set_cons_zero, List.set_cons_succ]
        refine wpAnyE_take (i := 4) (v := ?_) (some 65) rfl rfl (by kernel_rfl) (by kernel_rfl) (by kernel_rfl) (fun _ _ _ h => h) ?_ ?_
        rotate_left 1
        · (refine Or.inl ⟨by rfl, ?_⟩; intro w' hw'; have hq := below_via hcur hw'; have hq_e0 := Ext.trans e0 hw'; (try go_simp); (try rfl); done)
        try simp only [Act.put, List.setIfInBounds_toArray, List.set_cons_zero, List.set_cons_succ]
        refine wpAnyE_take (i := 5) (v := ?_) (some 66) rfl rfl (by kernel_rfl) (by kernel_rfl) (by kernel_rfl) (fun _ _ _ h => h) ?_ ?_
        rotate_left 1
        · (refine Or.inl ⟨by rfl, ?_⟩; intro w' hw'; have hq := below_via hcur hw'; have hq_e0 := Ext.trans e0 hw'; (try go_simp); (try rfl); done)
        try simp only [Act.put, List.setIfInBounds_toArray, List.set_cons_zero, List.set_cons_succ]
        refine wpAnyE_take (i := 6) (v := ?_) (some 1) rfl rfl (by kernel_rfl) (by kernel_rfl) (by kernel_rfl) (fun _ _ _ h => h) ?_ ?_
        rotate_left 1
        · (refine Or.inl ⟨by rfl, ?_⟩; intro w' hw'; have hq := below_via hcur hw'; have hq_e0 := Ext.trans e0 hw'; (try go_simp); (try rfl); done)
        try simp only [Act.put, List.setIfInBounds_toArray, List.set_cons_zero, List.set_cons_succ]
        refine wpAnyE_take (i := 7) (v := ?_) (some 2) rfl rfl (by kernel_rfl) (by kernel_rfl) (by kernel_rfl) (fun _ _ _ h => h) ?_ ?_
        rotate_left 1
        · (refine Or.inl ⟨by rfl, ?_⟩; intro w' hw'; have hq := below_via hcur hw'; have hq_e0 := Ext.trans e0 hw'; (try go_simp); (try rfl); done)
        try simp only [Act.put, List.setIfInBounds_toArray, List.set_cons_zero, List.set_cons_succ]
        refine wpAnyE_done (by kernel_rfl) ?_ _
        go_wp2_with fail
        go_roundw
        case rel => exact ⟨_, _, hLA.below e0, hLB.below e0, by rw [List.length_take]; omega, by rw [List.length_take]; omega, fun z hz => za' z (List.mem_of_mem_take hz), fun z hz => zb' z (List.mem_of_mem_take hz), hnx, hL'.out.trans hnl.out, hcur, hR6.below e0⟩
        case measure => simp [sliceLen]; omega
    · have hll := listsL_some hI'.out hxy
      rw [decide_eq_false hxy] at he
      go_wp2_with fail
      (with_reducible refine he.mono ?_); rintro e w7 ⟨rfl, rfl⟩
      have hR1 := hR6.set0 (.slice A5 (textL k a').length c5)
      have hR2 := hR1.set1 (.slice A6 (textL k b').length c6)
      have c0 := hR6.c0
      have c1 := hR1.c1
      have hret := hR2.load rfl rfl
      have bz : Below w.heap.size w _ := below_setCell (k := 1) (below_setCell (k := 0) bw6 (Nat.le_refl w.heap.size) (.slice A5 (textL k a').length c5)) (Nat.le_refl w.heap.size) (.slice A6 (textL k b').length c6)
      go_wp2_with fail
      have sA := (s56.off c0.1 (fun m h => by cases h) (.slice A5 (textL k a').length c5)).off c1.1 (fun m h => by cases h) (.slice A6 (textL k b').length c6)
      have sB := (s6.off c0.1 (fun m h => by cases h) (.slice A5 (textL k a').length c5)).off c1.1 (fun m h => by cases h) (.slice A6 (textL k b').length c6)
      refine ret_cell2 (v := .agg #[.slice A5 (textL k a').length c5, .slice A6 (textL k b').length c6]) Try.results12 rfl hret rfl ?_
      rw [hL'.out, hll]
      exact ⟨_, rfl, ⟨_, _, rfl⟩, ⟨_, _, rfl, sA, sB⟩, bz⟩
end Go.Proofs.Ytnpbapefjbfndaa
set_option linter.unusedVariables false
set_option linter.unusedSimpArgs false
set_option maxRecDepth 10000
namespace Go.Proofs.Ytnpbapefjbfndaa
open Go.RowKit
attribute [local go_sem high] dg_cells guard_dg rs_l rs_lh rs_lhm rs_h rs_hm rs_all

theorem PR.rload {w : World} {D : Nat} {u v : Value} (h : PR 33 w D u v) (hu : u.oneCell' = true) (hv : v.oneCell' = true) : (loadVar 33 ⟨D, 0, none⟩).run Try.prog w = .ok (.agg #[u, v]) w := by
  have h0 := h.c0.1
  have h1 := h.c1.1
  go_simp
set_option maxHeartbeats 4000000 in
theorem rlists_none (k : Nat) (hk : k ≤ 256) (va vb : Value) (a b : List (List UInt8)) (w : World) (la : a.length ≤ 1048576) (lb : b.length ≤ 1048576) (za : ∀ z ∈ a, z.length ≤ 1048576) (zb : ∀ z ∈ b, z.length ≤ 1048576)
    (ha : SlX w va a) (hb : SlX w vb b) (hab : a = b) :
    Calls Try.prog 13 #[.int .i64 k, va, vb] w fun e w' => ∃ v, e = .returned (.tuple #[v, .bool false]) ∧ PairAt w' v none ∧ Below w.heap.size w w' := by
  have e0 := ext_alloc w (.cells #[.slice none 0 0, .slice none 0 0] 33)
  have hs := rsame_any va vb a b _ (ha.below e0) (hb.below e0)
  rw [decide_eq_true hab] at hs
  clear ha hb hab
  go_enter Try.func13, Try.ntmps13
  go_wp2_with fail
  refine hs.mono ?_
  rintro e w2 ⟨rfl, b2⟩
  have bw := Ext.trans e0 b2
  have hR0 : PR 33 (w.alloc (.cells #[.slice none 0 0, .slice none 0 0] 33)) w.heap.size (.slice none 0 0) (.slice none 0 0) := heap_alloc_new _ _
  have hR := hR0.below b2
  have hR1 := hR.set0 (.slice none 0 0)
  have hR2 := hR1.set1 (.slice none 0 0)
  have c0 := hR.c0
  have c1 := hR1.c1
  have hret := hR2.rload rfl rfl
  have bz : Below w.heap.size w _ := below_setCell (k := 1) (below_setCell (k := 0) bw (Nat.le_refl w.heap.size) (.slice none 0 0)) (Nat.le_refl w.heap.size) (.slice none 0 0)
  go_wp2_with fail
  exact ret_cell2 (v := .agg #[.slice none 0 0, .slice none 0 0]) Try.results13 rfl hret rfl ⟨_, rfl, ⟨_, _, rfl, slB_nil _, slB_nil _⟩, bz⟩
set_option maxHeartbeats 4000000 in
theorem rlists_apart (k : Nat) (hk : k ≤ 256) (va vb : Value) (a b : List (List UInt8)) (w : World) (la : a.length ≤ 1048576) (lb : b.length ≤ 1048576) (za : ∀ z ∈ a, z.length ≤ 1048576) (zb : ∀ z ∈ b, z.length ≤ 1048576)
    (ha : SlX w va a) (hb : SlX w vb b) (hab : a ≠ b) (hrr : rootX k a ≠ rootX k b) :
    Calls Try.prog 13 #[.int .i64 k, va, vb] w fun e w' => ∃ v, e = .returned (.tuple #[v, .bool false]) ∧ PairAt w' v none ∧ Below w.heap.size w w' := by
  have e0 := ext_alloc w (.cells #[.slice none 0 0, .slice none 0 0] 33)
  have hs := rsame_any va vb a b _ (ha.below e0) (hb.below e0)
  rw [decide_eq_false hab] at hs
  have ka := fun w' (h : Ext w w') => rroot_any k hk va a w' la za (ha.below h)
  have kb := fun w' (h : Ext w w') => rroot_any k hk vb b w' lb zb (hb.below h)
  have da := rootX_length k a
  have db := rootX_length k b
  have qn := fun w' => arr_dg.neq (rootX k a) (rootX k b) da db w'
  have hrb : (rootX k a == rootX k b) = false := beq_eq_false_iff_ne.2 hrr
  rw [hrb] at qn
  have hR0 : PR 33 (w.alloc (.cells #[.slice none 0 0, .slice none 0 0] 33)) w.heap.size (.slice none 0 0) (.slice none 0 0) := heap_alloc_new _ _
  clear ha hb hab hrr hrb za zb
  generalize rootX k a = xa at *
  generalize rootX k b = xb at *
  go_enter Try.func13, Try.ntmps13
  go_wp2_with fail
  refine hs.mono ?_
  rintro e w2 ⟨rfl, b2⟩
  have bw := Ext.trans e0 b2
  have hR := hR0.below b2
  clear hR0 b2 e0
  go_wp2_with fail
  (with_reducible refine (ka _ bw).mono ?_); rintro e w3 ⟨rfl, b3⟩
  have bw3 := Ext.trans bw b3
  have hR3 := hR.below b3
  clear hR b3 bw
  go_wp2_with fail
  (with_reducible refine (kb _ bw3).mono ?_); rintro e w4 ⟨rfl, b4⟩
  have bw4 := Ext.trans bw3 b4
  have hR4 := hR3.below b4
  clear hR3 b4 bw3
  have hR1 := hR4.set0 (.slice none 0 0)
  have hR2 := hR1.set1 (.slice none 0 0)
  have c0 := hR4.c0
  have c1 := hR1.c1
  have hret := hR2.rload rfl rfl
  have bz : Below w.heap.size w _ := below_setCell (k := 1) (below_setCell (k := 0) bw4 (Nat.le_refl w.heap.size) (.slice none 0 0)) (Nat.le_refl w.heap.size) (.slice none 0 0)
  go_wp2_with fail
  exact ret_cell2 (v := .agg #[.slice none 0 0, .slice none 0 0]) Try.results13 rfl hret rfl ⟨_, rfl, ⟨_, _, rfl, slB_nil _, slB_nil _⟩, bz⟩
set_option maxHeartbeats 8000000 in
theorem rlists_differ (k : Nat) (hk : k ≤ 256) (va vb : Value) (a b : List (List UInt8)) (w : World) (la : a.length ≤ 1048576) (lb : b.length ≤ 1048576) (za : ∀ z ∈ a, z.length ≤ 1048576) (zb : ∀ z ∈ b, z.length ≤ 1048576)
    (ha : SlX w va a) (hb : SlX w vb b) (hab : a ≠ b) (hrr : rootX k a = rootX k b) (hxy : textL k a ≠ textL k b) :
    Calls Try.prog 13 #[.int .i64 k, va, vb] w fun e w' => ∃ v, e = .returned (.tuple #[v, .bool true]) ∧ PairAt w' v (some (textL k a, textL k b)) ∧ Below w.heap.size w w' := by
  have e0 := ext_alloc w (.cells #[.slice none 0 0, .slice none 0 0] 33)
  have hs := rsame_any va vb a b _ (ha.below e0) (hb.below e0)
  rw [decide_eq_false hab] at hs
  have ka := fun w' (h : Ext w w') => rroot_any k hk va a w' la za (ha.below h)
  have kb := fun w' (h : Ext w w') => rroot_any k hk vb b w' lb zb (hb.below h)
  have da := rootX_length k a
  have qn := fun w' => arr_dg.neqSelf (rootX k a) da w'
  rw [← hrr] at kb
  have ta := fun w' (h : Ext w w') => rtext_any k hk 1048576 va a w' la (Nat.le_refl _) za (ha.below h)
  have tb := fun w' (h : Ext w w') => rtext_any k hk 1048576 vb b w' lb (Nat.le_refl _) zb (hb.below h)
  have hxb : (textL k a == textL k b) = false := beq_eq_false_iff_ne.2 hxy
  have hR0 : PR 33 (w.alloc (.cells #[.slice none 0 0, .slice none 0 0] 33)) w.heap.size (.slice none 0 0) (.slice none 0 0) := heap_alloc_new _ _
  clear ha hb hab hrr hxy
  generalize rootX k a = xa at *
  generalize textL k a = x at *
  generalize textL k b = y at *
  go_enter Try.func13, Try.ntmps13
  go_wp2_with fail
  refine hs.mono ?_
  rintro e w2 ⟨rfl, b2⟩
  have bw := Ext.trans e0 b2
  have hR := hR0.below b2
  clear hR0 b2 e0
  go_wp2_with fail
  (with_reducible refine (ka _ bw).mono ?_); rintro e w3 ⟨rfl, b3⟩
  have bw3 := Ext.trans bw b3
  have hR3 := hR.below b3
  clear hR b3 bw
  go_wp2_with fail
  (with_reducible refine (kb _ bw3).mono ?_); rintro e w4 ⟨rfl, b4⟩
  have bw4 := Ext.trans bw3 b4
  have hR4 := hR3.below b4
  clear hR3 b4 bw3
  go_wp2_with fail
  (with_reducible refine (ta _ bw4).mono ?_); rintro e w5 ⟨v5, rfl, s5, b5⟩
  have bw5 := Ext.trans bw4 b5
  have hR5 := hR4.below b5
  clear hR4 b5 bw4
  go_wp2_with fail
  (with_reducible refine (tb _ bw5).mono ?_); rintro e w6 ⟨v6, rfl, s6, b6⟩
  have bw6 := Ext.trans bw5 b6
  have s56 := s5.below b6
  have hR6 := hR5.below b6
  clear hR5 b6 bw5 ka kb ta tb hs s5
  obtain ⟨A5, c5, rfl, _⟩ := id s56
  obtain ⟨A6, c6, rfl, _⟩ := id s6
  have e7 := ext_alloc w6 (.cells #[.slice A5 x.length c5, .slice A6 y.length c6] 33)
  have p0 := @pair_0 w6 _ 33 (.slice A5 x.length c5) (.slice A6 y.length c6) (Ext.refl _)
  have p1 := @pair_1 w6 _ 33 (.slice A5 x.length c5) (.slice A6 y.length c6) (Ext.refl _)
  have s5' := s56.below e7
  have s6' := s6.below e7
  have k1 := conv_sl (P := Try.prog) (dst := 9) Try.underlying23 Try.underlying5 Try.underlying9 s5'
  have k2 := conv_sl (P := Try.prog) (dst := 9) Try.underlying23 Try.underlying5 Try.underlying9 s6'
  have hR7 := hR6.below e7
  have bw7 := Ext.trans bw6 e7
  have hR1 := hR7.set0 (.slice A5 x.length c5)
  have hR2 := hR1.set1 (.slice A6 y.length c6)
  have c0 := hR7.c0
  have c1 := hR1.c1
  have hret := hR2.rload rfl rfl
  have sA := (s5'.off c0.1 (fun m h => by cases h) (.slice A5 x.length c5)).off c1.1 (fun m h => by cases h) (.slice A6 y.length c6)
  have sB := (s6'.off c0.1 (fun m h => by cases h) (.slice A5 x.length c5)).off c1.1 (fun m h => by cases h) (.slice A6 y.length c6)
  have bz : Below w.heap.size w _ := below_setCell (k := 1) (below_setCell (k := 0) bw7 (Nat.le_refl w.heap.size) (.slice A5 x.length c5)) (Nat.le_refl w.heap.size) (.slice A6 y.length c6)
  clear s56 s6 s5' s6' hR6 bw6 e7
  go_wp2_with fail
  exact ret_cell2 (v := .agg #[.slice A5 x.length c5, .slice A6 y.length c6]) Try.results13 rfl hret rfl ⟨_, rfl, ⟨_, _, rfl, sA, sB⟩, bz⟩
end Go.Proofs.Ytnpbapefjbfndaa
set_option linter.unusedVariables false
set_option linter.unusedSimpArgs false
set_option maxRecDepth 10000
namespace Go.Proofs.Ytnpbapefjbfndaa
open Go.RowKit

set_option maxHeartbeats 4000000 in
theorem is_any (u v : Value) (o q : Option (List UInt8 × List UInt8)) (w : World) (hu : PairAt w u o) (hv : PairAt w v q) :
    Calls Try.prog 14 #[u, v] w fun e w' => e = .returned (.bool (decide ((o.getD ([], [])).1 = (q.getD ([], [])).1) && decide ((o.getD ([], [])).2 = (q.getD ([], [])).2))) ∧ Below w.heap.size w w' := by
  obtain ⟨va, vb, rfl, ha, hb⟩ := hu
  obtain ⟨vc, vd, rfl, hc, hd⟩ := hv
  generalize (o.getD ([], [])).1 = a at *
  generalize (o.getD ([], [])).2 = b at *
  generalize (q.getD ([], [])).1 = c at *
  generalize (q.getD ([], [])).2 = d at *
  obtain ⟨A1, c1, rfl, _⟩ := id ha
  obtain ⟨A2, c2, rfl, _⟩ := id hb
  obtain ⟨A3, c3, rfl, _⟩ := id hc
  obtain ⟨A4, c4, rfl, _⟩ := id hd
  have e1 := ext_alloc w (.cells #[.slice A1 a.length c1, .slice A2 b.length c2] 30)
  have e2 := ext_alloc (w.alloc (.cells #[.slice A1 a.length c1, .slice A2 b.length c2] 30)) (.cells #[.slice A3 c.length c3, .slice A4 d.length c4] 33)
  have x2 := Ext.trans e1 e2
  have p0 := @pair_0 w _ 30 (.slice A1 a.length c1) (.slice A2 b.length c2) e2
  have p1 := @pair_1 w _ 30 (.slice A1 a.length c1) (.slice A2 b.length c2) e2
  have p2 := @pair_0 (w.alloc (.cells #[.slice A1 a.length c1, .slice A2 b.length c2] 30)) _ 33 (.slice A3 c.length c3) (.slice A4 d.length c4) (Ext.refl _)
  have p3 := @pair_1 (w.alloc (.cells #[.slice A1 a.length c1, .slice A2 b.length c2] 30)) _ 33 (.slice A3 c.length c3) (.slice A4 d.length c4) (Ext.refl _)
  have k1 := conv_sl (P := Try.prog) (dst := 9) Try.underlying23 Try.underlying5 Try.underlying9 (ha.below x2)
  have k2 := conv_sl (P := Try.prog) (dst := 9) Try.underlying23 Try.underlying5 Try.underlying9 (hb.below x2)
  have k3 := conv_sl (P := Try.prog) (dst := 9) Try.underlying23 Try.underlying5 Try.underlying9 (hc.below x2)
  have k4 := conv_sl (P := Try.prog) (dst := 9) Try.underlying23 Try.underlying5 Try.underlying9 (hd.below x2)
  have h1 : (a == c) = decide (a = c) := by rw [Bool.eq_iff_iff]; simp
  have h2 : (b == d) = decide (b = d) := by rw [Bool.eq_iff_iff]; simp
  clear ha hb hc hd e1 e2
  by_cases hac : a = c
  · rw [decide_eq_true hac] at h1 ⊢
    clear hac
    go_enter Try.func14, Try.ntmps14
    go_wp2_with fail
    go_ret
    exact ⟨by simp [h2], x2⟩
  · rw [decide_eq_false hac] at h1 ⊢
    clear hac
    go_enter Try.func14, Try.ntmps14
    go_wp2_with fail
    go_ret
    exact ⟨by simp, x2⟩
set_option maxHeartbeats 4000000 in
theorem kept_any (n : Int) (w : World) (h1 : -9223372036854775808 ≤ n) (h2 : n ≤ 9223372036854775807) :
    Calls Try.prog 9 #[.int .i64 n] w fun e w' => (∃ k : Nat, k ≤ 256 ∧ e = .returned (.int .i64 k)) ∧ w = w' := by
  have hw : 0 ≤ IntKind.u64.wrap n ∧ IntKind.u64.wrap n < 18446744073709551616 := by rw [IntKind.wrap_u64]; omega
  generalize hx : IntKind.u64.wrap n = x at *
  have h257 : Hid (∃ k : Nat, k ≤ 256 ∧ x % 257 = (k : Int)) := ⟨(x % 257).toNat, by omega, by omega⟩
  go_enter Try.func9, Try.ntmps9
  go_wp2_with fail
  obtain ⟨k, hk, e⟩ := h257.out
  rw [e]
  go_ret
  exact ⟨⟨k, hk, rfl⟩, rfl⟩
set_option maxHeartbeats 4000000 in
theorem hash_any (k : Nat) (w : World) :
    Calls Try.prog 10 #[.int .i64 k] w fun e w' => e = .returned (hv w.heap.size) ∧ HvAt w' w.heap.size k ∧ Below w.heap.size w w' := by
  have e1 := ext_alloc w (.cells #[.int .i64 (k : Int)] 3)
  have hc : (w.alloc (.cells #[.int .i64 (k : Int)] 3)).cell? ⟨w.heap.size, 0, none⟩ = some (.int .i64 (k : Int)) := by
    have := (rc_new w [.int .i64 (k : Int)] 3).some_ 0 _ rfl
    rwa [Addr.add_lit, Nat.zero_add] at this
  go_enter Try.func10, Try.ntmps10
  go_wp2_with fail
  go_ret
  exact ⟨rfl, hc, e1⟩
end Go.Proofs.Ytnpbapefjbfndaa
